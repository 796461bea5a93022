/- Walks: WbM. Printed by gen.py. -/
import Derived.Test.YtacjcomjnabmhaaWVal
import Derived.KernelRfl
namespace Go.Proofs.Ytacjcomjnabmhaa
open Go.RowKit
set_option linter.unusedVariables false
set_option linter.unusedSimpArgs false
set_option maxRecDepth 20000

theorem known112_WbM : Known Try.prog 112 := Known.mk' Try.func112 (by kernel_rfl)
theorem sz35_WbM : (Try.prog.info? 35).map (·.size) = some 8 := by kernel_rfl
theorem known66_WbM : Known Try.prog 66 := Known.mk' Try.func66 (by kernel_rfl)
theorem sz2_WbM : (Try.prog.info? 2).map (·.size) = some 1 := by kernel_rfl
theorem fb2_WbM : flatB Try.prog 2 = true := by kernel_rfl
theorem known135_WbM : Known Try.prog 135 := Known.mk' Try.func135 (by kernel_rfl)
theorem sz22_WbM : (Try.prog.info? 22).map (·.size) = some 1 := by kernel_rfl
theorem fb22_WbM : flatB Try.prog 22 = true := by kernel_rfl
theorem known126_WbM : Known Try.prog 126 := Known.mk' Try.func126 (by kernel_rfl)
theorem zero32_WbM : (Try.prog.info? 32).bind (·.zero) = some (Value.agg #[Value.float .f32 0, Value.float .f32 0, Value.float .f32 0]) := by kernel_rfl
theorem sz32_WbM : (Try.prog.info? 32).map (·.size) = some 3 := by kernel_rfl
theorem known136_WbM : Known Try.prog 136 := Known.mk' Try.func136 (by kernel_rfl)
theorem known125_WbM : Known Try.prog 125 := Known.mk' Try.func125 (by kernel_rfl)
theorem mixed_WbM : Try.prog.follows .mixedOrders = true := by kernel_rfl
theorem known139_WbM : Known Try.prog 139 := Known.mk' Try.func139 (by kernel_rfl)
theorem known138_WbM : Known Try.prog 138 := Known.mk' Try.func138 (by kernel_rfl)
theorem known137_WbM : Known Try.prog 137 := Known.mk' Try.func137 (by kernel_rfl)
theorem known140_WbM : Known Try.prog 140 := Known.mk' Try.func140 (by kernel_rfl)
theorem known116_WbM : Known Try.prog 116 := Known.mk' Try.func116 (by kernel_rfl)
theorem known62_WbM : Known Try.prog 62 := Known.mk' Try.func62 (by kernel_rfl)
theorem known130_WbM : Known Try.prog 130 := Known.mk' Try.func130 (by kernel_rfl)
theorem known120_WbM : Known Try.prog 120 := Known.mk' Try.func120 (by kernel_rfl)
theorem known133_WbM : Known Try.prog 133 := Known.mk' Try.func133 (by kernel_rfl)
theorem known121_WbM : Known Try.prog 121 := Known.mk' Try.func121 (by kernel_rfl)
theorem known132_WbM : Known Try.prog 132 := Known.mk' Try.func132 (by kernel_rfl)
theorem known131_WbM : Known Try.prog 131 := Known.mk' Try.func131 (by kernel_rfl)
theorem known134_WbM : Known Try.prog 134 := Known.mk' Try.func134 (by kernel_rfl)
theorem known43_WbM : Known Try.prog 43 := Known.mk' Try.func43 (by kernel_rfl)
theorem sz27_WbM : (Try.prog.info? 27).map (·.size) = some 8 := by kernel_rfl
theorem known14_WbM : Known Try.prog 14 := Known.mk' Try.func14 (by kernel_rfl)
theorem known45_WbM : Known Try.prog 45 := Known.mk' Try.func45 (by kernel_rfl)
theorem known16_WbM : Known Try.prog 16 := Known.mk' Try.func16 (by kernel_rfl)
theorem known51_WbM : Known Try.prog 51 := Known.mk' Try.func51 (by kernel_rfl)
theorem zero35_WbM : (Try.prog.info? 35).bind (·.zero) = some (Value.agg #[Value.float .f32 0, Value.float .f32 0, Value.float .f32 0, Value.float .f32 0, Value.int .i64 0, Value.int .i64 0, Value.int .i64 0, Value.slice none 0 0]) := by kernel_rfl
theorem known52_WbM : Known Try.prog 52 := Known.mk' Try.func52 (by kernel_rfl)
theorem known53_WbM : Known Try.prog 53 := Known.mk' Try.func53 (by kernel_rfl)
theorem known48_WbM : Known Try.prog 48 := Known.mk' Try.func48 (by kernel_rfl)
theorem known19_WbM : Known Try.prog 19 := Known.mk' Try.func19 (by kernel_rfl)
attribute [local irreducible] fop fcmp fconv sqrt32 fneg segF fieldS fieldI List.getD ffl mval between3 valI valS wbU wbN mid

theorem c_implWb {w : World} {a : Option Addr} {c : Nat} {f : Nat → Option Addr × Nat} {ws : List Wr} {f1 f2 f3 st : Nat} {wi hi de : Int} {d : Option Addr} {e : Nat} {vs : List V3} (hA : Cl w a (whd f ws)) (hR : WRws w f ws) (hn : wbulk ws ≤ 1050000) (hV : Cl w d (vl vs)) : Pure Try.prog 52 [.slice a ws.length c, .agg #[.float .f32 f1, .float .f32 f2, .float .f32 f3, .float .f32 st, .int .i64 wi, .int .i64 hi, .int .i64 de, .slice d vs.length e]] w (.tuple #[.float .f32 (wbD ws vs (f1, f2, f3) st wi hi de), .bool (wbOk ws vs (f1, f2, f3) st wi hi de)]) := by
  refine Pure.enter Try.func52 rfl Try.ntmps52 (Nat.le_of_ble_eq_true rfl) ?_
  have hwl : ws.length ≤ wbulk ws := by unfold wbulk; omega
  have hrw : ∀ k, k < ws.length → (ws.getD k zw).1.length ≤ 1050000 := fun k hk => by have := wbulk_row hk; omega
  refine V.seq ?_
  refine V.region ?_
  refine VL.new1 (.inl rfl) rfl (by decide) (yn_box rfl rfl (.inr ⟨rfl, rfl⟩)) ?_
  intro b3
  refine VL.r (.inl rfl) rfl (by decide) (yr_assign (u := .float .f32 0) rfl rfl) ?_
  refine VL.r (.inl rfl) rfl (by decide) (yr_assign (u := .bool false) rfl rfl) ?_
  refine VL.nil ?_
  refine VE.then_wp ?_
  refine V.seq ?_
  refine V.seq ?_
  refine V.region ?_
  refine VL.r (.inl rfl) rfl (by decide) (yr_move rfl rfl) ?_
  refine VL.q (.inl rfl) rfl (by decide) (yq_callf rfl known112_WbM (.cons rfl .nil) (fun w hw => (c_implAre (by first | exact Sees.root (by assumption) w hw | exact Sees.own (by repeat (first | exact List.mem_cons_self | exact List.mem_append_left _ (by assumption) | apply List.mem_cons_of_mem | apply List.mem_append_right)) w hw) (by first | exact WRws.root (by assumption) hw | exact WRws.own (by repeat (first | exact WRowsIn.here | exact WRowsIn.last | apply WRowsIn.there | apply WRowsIn.thereS)) hw) (by omega)))) ?_
  refine VL.r (.inl rfl) rfl (by decide) (yr_not rfl rfl) ?_
  refine VL.r (.inl rfl) rfl (by decide) (yr_move rfl rfl) ?_
  refine VX.split 20 _ rfl (fun h1 => ?_) (fun h1 => ?_)
  · skip
    replace h1 := bnot_t h1
    refine VL.no rfl rfl rfl rfl rfl (by decide) ?_
    refine VL.no rfl rfl rfl rfl rfl (by decide) ?_
    refine VL.no rfl rfl rfl rfl rfl (by decide) ?_
    refine VL.r (.inl rfl) rfl (by decide) (yr_pick_t (u := .bool true) rfl rfl rfl) ?_
    refine VL.nil ?_
    refine VE.then_wp ?_
    refine V.condT rfl ?_
    refine V.seq ?_
    refine V.region ?_
    refine VL.r (.inl rfl) rfl (by decide) (yr_assign (u := .float .f32 0) rfl rfl) ?_
    refine VL.r (.inl rfl) rfl (by decide) (yr_assign (u := .bool false) rfl rfl) ?_
    refine VL.nil ?_
    refine VE.then_wp ?_
    refine V.ret ?_
    refine VE.then_ret ?_
    refine ret2 rfl rfl rfl (by nofun) (by nofun) (fun w1 hw => ?_)
    first
      | (obtain rfl : z = hvN D := by omega
         have hE : wbL ws vs (f1, f2, f3) st (W : Int) (H : Int) (D : Int) = (wbU ws vs (f1, f2, f3) st W H D (nd W H 0 0 (hvN D))) := wbU_zn hge.1 hge.2.1
         cases hf : fin (wbU ws vs (f1, f2, f3) st W H D (nd W H 0 0 (hvN D))) with
         | false =>
           have hs : wbOk ws vs (f1, f2, f3) st (W : Int) (H : Int) (D : Int) = false := wb_no3 (by rw [hE]; exact hf)
           exact ⟨by rw [wbD_no hs, hs]; rfl, hw.below⟩
         | true =>
           have hs : wbOk ws vs (f1, f2, f3) st (W : Int) (H : Int) (D : Int) = true := wb_yes (by assumption) hok (by rw [hE]; exact hf)
           exact ⟨by rw [wbD_yes hs, hs, hE]; rfl, hw.below⟩)
      | (have hs : wbOk ws vs (f1, f2, f3) st wi hi de = false := by first | exact wb_no1 (by assumption) | exact wb_no2 (by assumption)); (exact ⟨by rw [wbD_no hs, hs], hw.below⟩)
  · skip
    replace h1 := bnot_f h1
    refine VL.q (.inr ⟨_, _, _, rfl, rfl, rfl⟩) rfl (by decide) (yq_loadS rfl Try.underlying35 sz35_WbM rfl (by first | exact Sees.root (by assumption) | exact Sees.own (by repeat (first | exact List.mem_cons_self | exact List.mem_append_left _ (by assumption) | apply List.mem_cons_of_mem | apply List.mem_append_right)) | exact Sees.root (hR _ (by omega)) | exact Sees.own (RowsIn.mem (by repeat (first | exact RowsIn.here | exact RowsIn.last | apply RowsIn.there | apply RowsIn.thereS)) _ (by omega)) | exact Sees.own (WRowsIn.mem (by repeat (first | exact WRowsIn.here | exact WRowsIn.last | apply WRowsIn.there | apply WRowsIn.thereS)) _ (by omega))) rfl rfl rfl) ?_
    refine VL.q (.inr ⟨_, _, _, rfl, rfl, rfl⟩) rfl (by decide) (yq_callf rfl known66_WbM (.cons rfl .nil) (fun w hw => c_implMesh)) ?_
    refine VL.r (.inr ⟨_, _, _, rfl, rfl, rfl⟩) rfl (by decide) (yr_not rfl rfl) ?_
    refine VL.r (.inl rfl) rfl (by decide) (yr_pick_f rfl rfl rfl) ?_
    refine VL.nil ?_
    refine VE.then_wp ?_
    refine V.cond rfl (fun h3 => ?_) (fun h3 => ?_)
    · skip
      replace h3 := bnot_t h3
      refine V.seq ?_
      refine V.region ?_
      refine VL.r (.inl rfl) rfl (by decide) (yr_assign (u := .float .f32 0) rfl rfl) ?_
      refine VL.r (.inl rfl) rfl (by decide) (yr_assign (u := .bool false) rfl rfl) ?_
      refine VL.nil ?_
      refine VE.then_wp ?_
      refine V.ret ?_
      refine VE.then_ret ?_
      refine ret2 rfl rfl rfl (by nofun) (by nofun) (fun w1 hw => ?_)
      first
        | (obtain rfl : z = hvN D := by omega
           have hE : wbL ws vs (f1, f2, f3) st (W : Int) (H : Int) (D : Int) = (wbU ws vs (f1, f2, f3) st W H D (nd W H 0 0 (hvN D))) := wbU_zn hge.1 hge.2.1
           cases hf : fin (wbU ws vs (f1, f2, f3) st W H D (nd W H 0 0 (hvN D))) with
           | false =>
             have hs : wbOk ws vs (f1, f2, f3) st (W : Int) (H : Int) (D : Int) = false := wb_no3 (by rw [hE]; exact hf)
             exact ⟨by rw [wbD_no hs, hs]; rfl, hw.below⟩
           | true =>
             have hs : wbOk ws vs (f1, f2, f3) st (W : Int) (H : Int) (D : Int) = true := wb_yes (by assumption) hok (by rw [hE]; exact hf)
             exact ⟨by rw [wbD_yes hs, hs, hE]; rfl, hw.below⟩)
        | (have hs : wbOk ws vs (f1, f2, f3) st wi hi de = false := by first | exact wb_no1 (by assumption) | exact wb_no2 (by assumption)); (exact ⟨by rw [wbD_no hs, hs], hw.below⟩)
    · skip
      replace h3 := bnot_f h3
      have hok : meshOk (f1, f2, f3) st wi hi de vs.length = true := h3
      obtain ⟨W, H, D, rfl, rfl, rfl, hge, hle, hbd, hN⟩ := mesh_open hok
      have hb1 := hvN_le hge.1
      have hb2 := hvN_le hge.2.1
      have hb3 := hvN_le hge.2.2
      refine V.skip ?_
      refine VE.then_wp ?_
      refine V.seq ?_
      refine V.region ?_
      refine VL.r (.inl rfl) rfl (by decide) (yr_assign (u := .float .f32 0) rfl rfl) ?_
      refine VL.nil ?_
      refine VE.then_wp ?_
      refine V.seq ?_
      refine V.seq ?_
      refine V.region ?_
      refine VL.r (.inl rfl) rfl (by decide) (yr_fieldAddr rfl Try.underlying35 rfl rfl sz2_WbM (by decide) rfl) ?_
      refine VL.q (.inl rfl) rfl (by decide) (yq_load rfl fb2_WbM rfl (by first | exact Sees.root (by assumption) | exact Sees.own (by repeat (first | exact List.mem_cons_self | exact List.mem_append_left _ (by assumption) | apply List.mem_cons_of_mem | apply List.mem_append_right)) | exact Sees.root (hR _ (by omega)) | exact Sees.own (RowsIn.mem (by repeat (first | exact RowsIn.here | exact RowsIn.last | apply RowsIn.there | apply RowsIn.thereS)) _ (by omega)) | exact Sees.own (WRowsIn.mem (by repeat (first | exact WRowsIn.here | exact WRowsIn.last | apply WRowsIn.there | apply WRowsIn.thereS)) _ (by omega))) rfl) ?_
      refine VL.new1 (.inl rfl) rfl (by decide) (yn_callf rfl known135_WbM (.cons rfl .nil) (fun w hw => (c_halves (by omega)))) ?_
      rintro ⟨a27, c27⟩
      refine VL.r (.inl rfl) rfl (by decide) (yr_len rfl Try.underlying29 rfl) ?_
      refine VL.r (.inl rfl) rfl (by decide) (yr_move (u := .int .i64 0) rfl rfl) ?_
      refine VL.nil ?_
      refine VE.then_wp ?_
      refine V.block ?_
      refine V.loopc (G := Nat) [(0, _), (3, _), (27, _), (28, _)] (fun (z : Nat) => z ≤ hvN D ∧ True) (fun (z : Nat) => [⟨a27, fl (hv D), c27 * 1, 22⟩, ⟨some ⟨b3, 0, none⟩, [.float .f32 f1, .float .f32 f2, .float .f32 f3, .float .f32 st, .int .i64 (W : Int), .int .i64 (H : Int), .int .i64 (D : Int), .slice d vs.length e], 8, 35⟩]) (fun (z : Nat) => [(6, .float .f32 (wbU ws vs (f1, f2, f3) st W H D (nd W H 0 0 z))), (29, .int .i64 (z : Int))]) (fun (z : Nat) => hvN D - z) 0 (.cons rfl (.cons rfl (.cons rfl (.cons rfl .nil)))) (.cons (congrArg (fun n => some (Value.float .f32 n)) (by exact wbU_0.symm)) (.cons rfl .nil)) ?_ ?_ ?_
      · exact (fun w hw => hw)
      · exact (by exact ⟨Nat.zero_le _, trivial⟩)
      rintro z ⟨hz, _⟩
      show V _ _ _ [⟨a27, fl (hv D), c27 * 1, 22⟩, ⟨some ⟨b3, 0, none⟩, [.float .f32 f1, .float .f32 f2, .float .f32 f3, .float .f32 st, .int .i64 (W : Int), .int .i64 (H : Int), .int .i64 (D : Int), .slice d vs.length e], 8, 35⟩] ([(6, .float .f32 (wbU ws vs (f1, f2, f3) st W H D (nd W H 0 0 z))), (29, .int .i64 (z : Int))] ++ [(0, _), (3, _), (27, _), (28, _)]) _ _
      refine V.seq ?_
      refine V.region ?_
      refine VL.r (.inl rfl) rfl (by decide) (yr_icmp rfl (.inr (.inr (.inl rfl))) rfl rfl) ?_
      refine VL.nil ?_
      refine VE.then_wp ?_
      refine V.seq ?_
      refine V.cond rfl (fun h4 => ?_) (fun h4 => ?_)
      · skip
        replace h4 := ic_lss h4
        refine V.skip ?_
        refine VE.then_wp ?_
        refine V.seq ?_
        refine V.block ?_
        refine V.seq ?_
        refine V.region ?_
        refine VL.q (.inl rfl) rfl (by decide) (yq_idx (k := z) rfl Try.underlying29 sz22_WbM rfl rfl (by first | exact Sees.root (by assumption) | exact Sees.own (by repeat (first | exact List.mem_cons_self | exact List.mem_append_left _ (by assumption) | apply List.mem_cons_of_mem | apply List.mem_append_right)) | exact Sees.root (hR _ (by omega)) | exact Sees.own (RowsIn.mem (by repeat (first | exact RowsIn.here | exact RowsIn.last | apply RowsIn.there | apply RowsIn.thereS)) _ (by omega)) | exact Sees.own (WRowsIn.mem (by repeat (first | exact WRowsIn.here | exact WRowsIn.last | apply WRowsIn.there | apply WRowsIn.thereS)) _ (by omega))) (by first | rfl | omega | (push_cast; rfl) | (push_cast; omega) | exact tmod_nat _ _) (by first | exact (fl_length _).trans (hv_length _)) (by first | omega | (rw [hv_length]; omega))) ?_
        refine VL.q (.inl rfl) rfl (by decide) (yq_loadF rfl fb22_WbM rfl (by first | exact Sees.root (by assumption) | exact Sees.own (by repeat (first | exact List.mem_cons_self | exact List.mem_append_left _ (by assumption) | apply List.mem_cons_of_mem | apply List.mem_append_right)) | exact Sees.root (hR _ (by omega)) | exact Sees.own (RowsIn.mem (by repeat (first | exact RowsIn.here | exact RowsIn.last | apply RowsIn.there | apply RowsIn.thereS)) _ (by omega)) | exact Sees.own (WRowsIn.mem (by repeat (first | exact WRowsIn.here | exact WRowsIn.last | apply WRowsIn.there | apply WRowsIn.thereS)) _ (by omega))) (by first | omega | (rw [hv_length]; omega))) ?_
        refine VL.r (.inl rfl) rfl (by decide) (yr_assign rfl rfl) ?_
        refine VL.nil ?_
        refine VE.then_wp ?_
        refine V.seq ?_
        refine V.region ?_
        refine VL.r (.inl rfl) rfl (by decide) (yr_fieldAddr rfl Try.underlying35 rfl rfl sz2_WbM (by decide) rfl) ?_
        refine VL.q (.inl rfl) rfl (by decide) (yq_load rfl fb2_WbM rfl (by first | exact Sees.root (by assumption) | exact Sees.own (by repeat (first | exact List.mem_cons_self | exact List.mem_append_left _ (by assumption) | apply List.mem_cons_of_mem | apply List.mem_append_right)) | exact Sees.root (hR _ (by omega)) | exact Sees.own (RowsIn.mem (by repeat (first | exact RowsIn.here | exact RowsIn.last | apply RowsIn.there | apply RowsIn.thereS)) _ (by omega)) | exact Sees.own (WRowsIn.mem (by repeat (first | exact WRowsIn.here | exact WRowsIn.last | apply WRowsIn.there | apply WRowsIn.thereS)) _ (by omega))) rfl) ?_
        refine VL.new1 (.inl rfl) rfl (by decide) (yn_callf rfl known135_WbM (.cons rfl .nil) (fun w hw => (c_halves (by omega)))) ?_
        rintro ⟨a35, c35⟩
        refine VL.r (.inl rfl) rfl (by decide) (yr_len rfl Try.underlying29 rfl) ?_
        refine VL.r (.inl rfl) rfl (by decide) (yr_move (u := .int .i64 0) rfl rfl) ?_
        refine VL.nil ?_
        refine VE.then_wp ?_
        refine V.block ?_
        refine V.loopc (G := Nat) [(0, _), (3, _), (8, _), (27, _), (28, _), (29, _), (35, _), (36, _)] (fun (y : Nat) => y ≤ hvN H ∧ True) (fun (y : Nat) => [⟨a35, fl (hv H), c35 * 1, 22⟩, ⟨a27, fl (hv D), c27 * 1, 22⟩, ⟨some ⟨b3, 0, none⟩, [.float .f32 f1, .float .f32 f2, .float .f32 f3, .float .f32 st, .int .i64 (W : Int), .int .i64 (H : Int), .int .i64 (D : Int), .slice d vs.length e], 8, 35⟩]) (fun (y : Nat) => [(6, .float .f32 (wbU ws vs (f1, f2, f3) st W H D (nd W H 0 y z))), (37, .int .i64 (y : Int))]) (fun (y : Nat) => hvN H - y) 0 (.cons rfl (.cons rfl (.cons rfl (.cons rfl (.cons rfl (.cons rfl (.cons rfl (.cons rfl .nil)))))))) (.cons rfl (.cons rfl .nil)) ?_ ?_ ?_
        · exact (fun w hw => hw)
        · exact (by exact ⟨Nat.zero_le _, trivial⟩)
        rintro y ⟨hy, _⟩
        show V _ _ _ [⟨a35, fl (hv H), c35 * 1, 22⟩, ⟨a27, fl (hv D), c27 * 1, 22⟩, ⟨some ⟨b3, 0, none⟩, [.float .f32 f1, .float .f32 f2, .float .f32 f3, .float .f32 st, .int .i64 (W : Int), .int .i64 (H : Int), .int .i64 (D : Int), .slice d vs.length e], 8, 35⟩] ([(6, .float .f32 (wbU ws vs (f1, f2, f3) st W H D (nd W H 0 y z))), (37, .int .i64 (y : Int))] ++ [(0, _), (3, _), (8, _), (27, _), (28, _), (29, _), (35, _), (36, _)]) _ _
        refine V.seq ?_
        refine V.region ?_
        refine VL.r (.inl rfl) rfl (by decide) (yr_icmp rfl (.inr (.inr (.inl rfl))) rfl rfl) ?_
        refine VL.nil ?_
        refine VE.then_wp ?_
        refine V.seq ?_
        refine V.cond rfl (fun h5 => ?_) (fun h5 => ?_)
        · skip
          replace h5 := ic_lss h5
          refine V.skip ?_
          refine VE.then_wp ?_
          refine V.seq ?_
          refine V.block ?_
          refine V.seq ?_
          refine V.region ?_
          refine VL.q (.inl rfl) rfl (by decide) (yq_idx (k := y) rfl Try.underlying29 sz22_WbM rfl rfl (by first | exact Sees.root (by assumption) | exact Sees.own (by repeat (first | exact List.mem_cons_self | exact List.mem_append_left _ (by assumption) | apply List.mem_cons_of_mem | apply List.mem_append_right)) | exact Sees.root (hR _ (by omega)) | exact Sees.own (RowsIn.mem (by repeat (first | exact RowsIn.here | exact RowsIn.last | apply RowsIn.there | apply RowsIn.thereS)) _ (by omega)) | exact Sees.own (WRowsIn.mem (by repeat (first | exact WRowsIn.here | exact WRowsIn.last | apply WRowsIn.there | apply WRowsIn.thereS)) _ (by omega))) (by first | rfl | omega | (push_cast; rfl) | (push_cast; omega) | exact tmod_nat _ _) (by first | exact (fl_length _).trans (hv_length _)) (by first | omega | (rw [hv_length]; omega))) ?_
          refine VL.q (.inl rfl) rfl (by decide) (yq_loadF rfl fb22_WbM rfl (by first | exact Sees.root (by assumption) | exact Sees.own (by repeat (first | exact List.mem_cons_self | exact List.mem_append_left _ (by assumption) | apply List.mem_cons_of_mem | apply List.mem_append_right)) | exact Sees.root (hR _ (by omega)) | exact Sees.own (RowsIn.mem (by repeat (first | exact RowsIn.here | exact RowsIn.last | apply RowsIn.there | apply RowsIn.thereS)) _ (by omega)) | exact Sees.own (WRowsIn.mem (by repeat (first | exact WRowsIn.here | exact WRowsIn.last | apply WRowsIn.there | apply WRowsIn.thereS)) _ (by omega))) (by first | omega | (rw [hv_length]; omega))) ?_
          refine VL.r (.inl rfl) rfl (by decide) (yr_assign rfl rfl) ?_
          refine VL.nil ?_
          refine VE.then_wp ?_
          refine V.seq ?_
          refine V.region ?_
          refine VL.r (.inl rfl) rfl (by decide) (yr_fieldAddr rfl Try.underlying35 rfl rfl sz2_WbM (by decide) rfl) ?_
          refine VL.q (.inl rfl) rfl (by decide) (yq_load rfl fb2_WbM rfl (by first | exact Sees.root (by assumption) | exact Sees.own (by repeat (first | exact List.mem_cons_self | exact List.mem_append_left _ (by assumption) | apply List.mem_cons_of_mem | apply List.mem_append_right)) | exact Sees.root (hR _ (by omega)) | exact Sees.own (RowsIn.mem (by repeat (first | exact RowsIn.here | exact RowsIn.last | apply RowsIn.there | apply RowsIn.thereS)) _ (by omega)) | exact Sees.own (WRowsIn.mem (by repeat (first | exact WRowsIn.here | exact WRowsIn.last | apply WRowsIn.there | apply WRowsIn.thereS)) _ (by omega))) rfl) ?_
          refine VL.new1 (.inl rfl) rfl (by decide) (yn_callf rfl known135_WbM (.cons rfl .nil) (fun w hw => (c_halves (by omega)))) ?_
          rintro ⟨a43, c43⟩
          refine VL.r (.inl rfl) rfl (by decide) (yr_len rfl Try.underlying29 rfl) ?_
          refine VL.r (.inl rfl) rfl (by decide) (yr_move (u := .int .i64 0) rfl rfl) ?_
          refine VL.nil ?_
          refine VE.then_wp ?_
          refine V.block ?_
          refine V.loopc (G := Nat) [(0, _), (3, _), (8, _), (10, _), (27, _), (28, _), (29, _), (35, _), (36, _), (37, _), (43, _), (44, _)] (fun (x : Nat) => x ≤ hvN W ∧ True) (fun (x : Nat) => [⟨a43, fl (hv W), c43 * 1, 22⟩, ⟨a35, fl (hv H), c35 * 1, 22⟩, ⟨a27, fl (hv D), c27 * 1, 22⟩, ⟨some ⟨b3, 0, none⟩, [.float .f32 f1, .float .f32 f2, .float .f32 f3, .float .f32 st, .int .i64 (W : Int), .int .i64 (H : Int), .int .i64 (D : Int), .slice d vs.length e], 8, 35⟩]) (fun (x : Nat) => [(6, .float .f32 (wbU ws vs (f1, f2, f3) st W H D (nd W H x y z))), (45, .int .i64 (x : Int))]) (fun (x : Nat) => hvN W - x) 0 (.cons rfl (.cons rfl (.cons rfl (.cons rfl (.cons rfl (.cons rfl (.cons rfl (.cons rfl (.cons rfl (.cons rfl (.cons rfl (.cons rfl .nil)))))))))))) (.cons rfl (.cons rfl .nil)) ?_ ?_ ?_
          · exact (fun w hw => hw)
          · exact (by exact ⟨Nat.zero_le _, trivial⟩)
          rintro x ⟨hx, _⟩
          show V _ _ _ [⟨a43, fl (hv W), c43 * 1, 22⟩, ⟨a35, fl (hv H), c35 * 1, 22⟩, ⟨a27, fl (hv D), c27 * 1, 22⟩, ⟨some ⟨b3, 0, none⟩, [.float .f32 f1, .float .f32 f2, .float .f32 f3, .float .f32 st, .int .i64 (W : Int), .int .i64 (H : Int), .int .i64 (D : Int), .slice d vs.length e], 8, 35⟩] ([(6, .float .f32 (wbU ws vs (f1, f2, f3) st W H D (nd W H x y z))), (45, .int .i64 (x : Int))] ++ [(0, _), (3, _), (8, _), (10, _), (27, _), (28, _), (29, _), (35, _), (36, _), (37, _), (43, _), (44, _)]) _ _
          refine V.seq ?_
          refine V.region ?_
          refine VL.r (.inl rfl) rfl (by decide) (yr_icmp rfl (.inr (.inr (.inl rfl))) rfl rfl) ?_
          refine VL.nil ?_
          refine VE.then_wp ?_
          refine V.seq ?_
          refine V.cond rfl (fun h6 => ?_) (fun h6 => ?_)
          · skip
            replace h6 := ic_lss h6
            refine V.skip ?_
            refine VE.then_wp ?_
            refine V.seq ?_
            refine V.block ?_
            refine V.seq ?_
            refine V.region ?_
            refine VL.q (.inl rfl) rfl (by decide) (yq_idx (k := x) rfl Try.underlying29 sz22_WbM rfl rfl (by first | exact Sees.root (by assumption) | exact Sees.own (by repeat (first | exact List.mem_cons_self | exact List.mem_append_left _ (by assumption) | apply List.mem_cons_of_mem | apply List.mem_append_right)) | exact Sees.root (hR _ (by omega)) | exact Sees.own (RowsIn.mem (by repeat (first | exact RowsIn.here | exact RowsIn.last | apply RowsIn.there | apply RowsIn.thereS)) _ (by omega)) | exact Sees.own (WRowsIn.mem (by repeat (first | exact WRowsIn.here | exact WRowsIn.last | apply WRowsIn.there | apply WRowsIn.thereS)) _ (by omega))) (by first | rfl | omega | (push_cast; rfl) | (push_cast; omega) | exact tmod_nat _ _) (by first | exact (fl_length _).trans (hv_length _)) (by first | omega | (rw [hv_length]; omega))) ?_
            refine VL.q (.inl rfl) rfl (by decide) (yq_loadF rfl fb22_WbM rfl (by first | exact Sees.root (by assumption) | exact Sees.own (by repeat (first | exact List.mem_cons_self | exact List.mem_append_left _ (by assumption) | apply List.mem_cons_of_mem | apply List.mem_append_right)) | exact Sees.root (hR _ (by omega)) | exact Sees.own (RowsIn.mem (by repeat (first | exact RowsIn.here | exact RowsIn.last | apply RowsIn.there | apply RowsIn.thereS)) _ (by omega)) | exact Sees.own (WRowsIn.mem (by repeat (first | exact WRowsIn.here | exact WRowsIn.last | apply WRowsIn.there | apply WRowsIn.thereS)) _ (by omega))) (by first | omega | (rw [hv_length]; omega))) ?_
            refine VL.r (.inl rfl) rfl (by decide) (yr_assign rfl rfl) ?_
            refine VL.nil ?_
            refine VE.then_wp ?_
            refine V.seq ?_
            refine V.region ?_
            refine VL.q (.inl rfl) rfl (by decide) (yq_loadS rfl Try.underlying35 sz35_WbM rfl (by first | exact Sees.root (by assumption) | exact Sees.own (by repeat (first | exact List.mem_cons_self | exact List.mem_append_left _ (by assumption) | apply List.mem_cons_of_mem | apply List.mem_append_right)) | exact Sees.root (hR _ (by omega)) | exact Sees.own (RowsIn.mem (by repeat (first | exact RowsIn.here | exact RowsIn.last | apply RowsIn.there | apply RowsIn.thereS)) _ (by omega)) | exact Sees.own (WRowsIn.mem (by repeat (first | exact WRowsIn.here | exact WRowsIn.last | apply WRowsIn.there | apply WRowsIn.thereS)) _ (by omega))) rfl rfl rfl) ?_
            refine VL.r (.inl rfl) rfl (by decide) (yr_move rfl rfl) ?_
            refine VL.r (.inl rfl) rfl (by decide) (yr_move rfl rfl) ?_
            refine VL.r (.inl rfl) rfl (by decide) (yr_move rfl rfl) ?_
            refine VL.q (.inl rfl) rfl (by decide) (yq_callf rfl known126_WbM (.cons rfl (.cons rfl (.cons rfl (.cons rfl .nil)))) (fun w hw => c_place)) ?_
            refine VL.new1 (.inl rfl) rfl (by decide) (yn_alloc rfl zero32_WbM rfl) ?_
            intro b13
            refine VL.s (.inl rfl) rfl (yc_store rfl sz32_WbM rfl rfl (by repeat (first | exact UpdF.here | apply UpdF.there | apply UpdF.thereS)) (.inr ⟨rfl, rfl⟩) rfl (by first | exact Nat.le_of_ble_eq_true rfl | simp) (by decide) rfl) ?_
            rintro ⟨⟩
            refine VL.nil ?_
            refine VE.then_wp ?_
            refine V.seq ?_
            refine V.seq ?_
            refine V.region ?_
            refine VL.q (.inl rfl) rfl (by decide) (yq_loadS rfl Try.underlying32 sz32_WbM rfl (by first | exact Sees.root (by assumption) | exact Sees.own (by repeat (first | exact List.mem_cons_self | exact List.mem_append_left _ (by assumption) | apply List.mem_cons_of_mem | apply List.mem_append_right)) | exact Sees.root (hR _ (by omega)) | exact Sees.own (RowsIn.mem (by repeat (first | exact RowsIn.here | exact RowsIn.last | apply RowsIn.there | apply RowsIn.thereS)) _ (by omega)) | exact Sees.own (WRowsIn.mem (by repeat (first | exact WRowsIn.here | exact WRowsIn.last | apply WRowsIn.there | apply WRowsIn.thereS)) _ (by omega))) rfl rfl rfl) ?_
            refine VL.q (.inl rfl) rfl (by decide) (yq_callf rfl known136_WbM (.cons rfl .nil) (fun w hw => (c_fin3 (x1 := (hvP (f1, f2, f3) st W H D x y z).1) (x2 := (hvP (f1, f2, f3) st W H D x y z).2.1) (x3 := (hvP (f1, f2, f3) st W H D x y z).2.2)))) ?_
            refine VL.r (.inl rfl) rfl (by decide) (yr_not rfl rfl) ?_
            refine VL.nil ?_
            refine VE.then_wp ?_
            refine V.cond rfl (fun h7 => ?_) (fun h7 => ?_)
            · skip
              replace h7 := bnot_t h7
              refine V.exit ?_
              refine VE.then_exit ?_
              refine VE.block_here ?_
              refine VE.then_wp ?_
              refine V.region ?_
              refine VL.r (.inl rfl) rfl (by decide) (yr_int rfl rfl rfl (.inl ⟨rfl, wrap_in (by omega)⟩)) ?_
              refine VL.r (.inl rfl) rfl (by decide) (yr_move rfl rfl) ?_
              refine VL.nil ?_
              refine VE.round (x + 1) ?_ ?_ ?_ ?_ ?_
              · exact (.cons (congrArg (fun n => some (Value.float .f32 n)) (by rw [wbI_in (by omega) (by omega) (by omega) hge.1 hge.2.1]; first | exact (wbN_yes (by assumption) (by assumption)).symm | exact (wbN_no1 (by assumption)).symm | exact (wbN_no2 (by assumption)).symm)) (.cons rfl .nil))
              · exact (.cons rfl (.cons rfl (.cons rfl (.cons rfl (.cons rfl (.cons rfl (.cons rfl (.cons rfl (.cons rfl (.cons rfl (.cons rfl (.cons rfl .nil))))))))))))
              · exact (fun w hw => by first | exact hw.sub ((List.sublist_cons_self _ _).trans (List.sublist_cons_self _ _)) | exact hw.sub (List.sublist_cons_self _ _))
              · exact ⟨by omega, trivial⟩
              · (try dsimp only); omega
            · skip
              replace h7 := bnot_f h7
              refine V.skip ?_
              refine VE.then_wp ?_
              refine V.seq ?_
              refine V.region ?_
              refine VL.r (.inl rfl) rfl (by decide) (yr_move rfl rfl) ?_
              refine VL.q (.inl rfl) rfl (by decide) (yq_loadS rfl Try.underlying32 sz32_WbM rfl (by first | exact Sees.root (by assumption) | exact Sees.own (by repeat (first | exact List.mem_cons_self | exact List.mem_append_left _ (by assumption) | apply List.mem_cons_of_mem | apply List.mem_append_right)) | exact Sees.root (hR _ (by omega)) | exact Sees.own (RowsIn.mem (by repeat (first | exact RowsIn.here | exact RowsIn.last | apply RowsIn.there | apply RowsIn.thereS)) _ (by omega)) | exact Sees.own (WRowsIn.mem (by repeat (first | exact WRowsIn.here | exact WRowsIn.last | apply WRowsIn.there | apply WRowsIn.thereS)) _ (by omega))) rfl rfl rfl) ?_
              refine VL.q (.inl rfl) rfl (by decide) (yq_callf rfl known125_WbM (.cons rfl (.cons rfl .nil)) (fun w hw => (c_fieldAll (p1 := (hvP (f1, f2, f3) st W H D x y z).1) (p2 := (hvP (f1, f2, f3) st W H D x y z).2.1) (p3 := (hvP (f1, f2, f3) st W H D x y z).2.2) (by first | exact Sees.root (by assumption) w hw | exact Sees.own (by repeat (first | exact List.mem_cons_self | exact List.mem_append_left _ (by assumption) | apply List.mem_cons_of_mem | apply List.mem_append_right)) w hw) (by first | exact WRws.root (by assumption) hw | exact WRws.own (by repeat (first | exact WRowsIn.here | exact WRowsIn.last | apply WRowsIn.there | apply WRowsIn.thereS)) hw) (by omega) (by assumption)))) ?_
              refine VL.r (.inl rfl) rfl (by decide) (yr_move rfl rfl) ?_
              refine VL.r (.inl rfl) rfl (by decide) (yr_extract rfl rfl rfl (by nofun)) ?_
              refine VL.r (.inl rfl) rfl (by decide) (yr_extract rfl rfl rfl (by nofun)) ?_
              refine VL.new1 (.inl rfl) rfl (by decide) (yn_alloc rfl zero32_WbM rfl) ?_
              intro b14
              refine VL.s (.inl rfl) rfl (yc_store rfl sz32_WbM rfl rfl (by repeat (first | exact UpdF.here | apply UpdF.there | apply UpdF.thereS)) (.inr ⟨rfl, rfl⟩) rfl (by first | exact Nat.le_of_ble_eq_true rfl | simp) (by decide) rfl) ?_
              rintro ⟨⟩
              refine VL.r (.inl rfl) rfl (by decide) (yr_assign rfl rfl) ?_
              refine VL.nil ?_
              refine VE.then_wp ?_
              refine V.seq ?_
              refine Dr.V.drawR [(0, 5), (1, 5), (2, 5), (3, 5), (4, 5), (5, 5), (6, 5)] [] [] _ mixed_WbM (by kernel_rfl) (fun w hw => hw) ?_
              refine Dr.SW.p rfl (.inl rfl) rfl (by decide) (yq_loadS rfl Try.underlying35 sz35_WbM rfl (by first | exact Sees.root (by assumption) | exact Sees.own (by (try simp only [List.append_assoc, List.cons_append, List.nil_append]); repeat (first | exact List.mem_cons_self | exact List.mem_append_left _ (by assumption) | apply List.mem_cons_of_mem | apply List.mem_append_right)) | exact Sees.root (hR _ (by omega)) | exact Sees.own (RowsIn.mem (by (try simp only [List.append_assoc, List.cons_append, List.nil_append]); repeat (first | exact RowsIn.here | exact RowsIn.last | apply RowsIn.there | apply RowsIn.thereS)) _ (by omega)) | exact Sees.own (WRowsIn.mem (by (try simp only [List.append_assoc, List.cons_append, List.nil_append]); repeat (first | exact WRowsIn.here | exact WRowsIn.last | apply WRowsIn.there | apply WRowsIn.thereS)) _ (by omega))) rfl rfl rfl) ?_
              refine Dr.SW.p rfl (.inl rfl) rfl (by decide) (yq_loadS rfl Try.underlying32 sz32_WbM rfl (by first | exact Sees.root (by assumption) | exact Sees.own (by (try simp only [List.append_assoc, List.cons_append, List.nil_append]); repeat (first | exact List.mem_cons_self | exact List.mem_append_left _ (by assumption) | apply List.mem_cons_of_mem | apply List.mem_append_right)) | exact Sees.root (hR _ (by omega)) | exact Sees.own (RowsIn.mem (by (try simp only [List.append_assoc, List.cons_append, List.nil_append]); repeat (first | exact RowsIn.here | exact RowsIn.last | apply RowsIn.there | apply RowsIn.thereS)) _ (by omega)) | exact Sees.own (WRowsIn.mem (by (try simp only [List.append_assoc, List.cons_append, List.nil_append]); repeat (first | exact WRowsIn.here | exact WRowsIn.last | apply WRowsIn.there | apply WRowsIn.thereS)) _ (by omega))) rfl rfl rfl) ?_
              refine Dr.SW.p rfl (.inl rfl) rfl (by decide) (yq_callf rfl known139_WbM (.cons rfl (.cons rfl .nil)) (fun w hw => (c_valI (p1 := (hvP (f1, f2, f3) st W H D x y z).1) (p2 := (hvP (f1, f2, f3) st W H D x y z).2.1) (p3 := (hvP (f1, f2, f3) st W H D x y z).2.2) (by first | exact Sees.root (by assumption) w hw | exact Sees.own (by (try simp only [List.append_assoc, List.cons_append, List.nil_append]); repeat (first | exact List.mem_cons_self | exact List.mem_append_left _ (by assumption) | apply List.mem_cons_of_mem | apply List.mem_append_right)) w hw) hN hbd (by omega) (by omega) (by omega)))) ?_
              refine Dr.SW.p rfl (.inl rfl) rfl (by decide) (yq_loadS rfl Try.underlying32 sz32_WbM rfl (by first | exact Sees.root (by assumption) | exact Sees.own (by (try simp only [List.append_assoc, List.cons_append, List.nil_append]); repeat (first | exact List.mem_cons_self | exact List.mem_append_left _ (by assumption) | apply List.mem_cons_of_mem | apply List.mem_append_right)) | exact Sees.root (hR _ (by omega)) | exact Sees.own (RowsIn.mem (by (try simp only [List.append_assoc, List.cons_append, List.nil_append]); repeat (first | exact RowsIn.here | exact RowsIn.last | apply RowsIn.there | apply RowsIn.thereS)) _ (by omega)) | exact Sees.own (WRowsIn.mem (by (try simp only [List.append_assoc, List.cons_append, List.nil_append]); repeat (first | exact WRowsIn.here | exact WRowsIn.last | apply WRowsIn.there | apply WRowsIn.thereS)) _ (by omega))) rfl rfl rfl) ?_
              refine Dr.SW.p rfl (.inl rfl) rfl (by decide) (yq_callf rfl known138_WbM (.cons rfl (.cons rfl .nil)) (fun w hw => c_sub3)) ?_
              refine Dr.SW.p rfl (.inl rfl) rfl (by decide) (yq_callf rfl known137_WbM (.cons rfl .nil) (fun w hw => c_long3)) ?_
              refine Dr.SW.r rfl (.inl rfl) rfl (by decide) (yr_assign rfl rfl) ?_
              refine Dr.SW.done ?_
              refine Dr.eqO (by simp only [List.append_nil, List.append_assoc, List.cons_append, List.nil_append] <;> rfl) ?_
              refine VE.then_wp ?_
              refine V.seq ?_
              refine V.region ?_
              refine VL.r (.inl rfl) rfl (by decide) (yr_move rfl rfl) ?_
              refine VL.r (.inl rfl) rfl (by decide) (yr_move rfl rfl) ?_
              refine VL.r (.inl rfl) rfl (by decide) (yr_fcmp rfl (.inr (.inr (.inr (.inr (.inl rfl))))) rfl rfl) ?_
              refine VL.nil ?_
              refine VE.then_wp ?_
              refine V.cond rfl (fun h8 => ?_) (fun h8 => ?_)
              · skip
                refine V.region ?_
                refine VL.r (.inl rfl) rfl (by decide) (yr_move rfl rfl) ?_
                refine VL.r (.inl rfl) rfl (by decide) (yr_assign rfl rfl) ?_
                refine VL.nil ?_
                refine VE.block_normal ?_
                refine VE.then_wp ?_
                refine V.region ?_
                refine VL.r (.inl rfl) rfl (by decide) (yr_int rfl rfl rfl (.inl ⟨rfl, wrap_in (by omega)⟩)) ?_
                refine VL.r (.inl rfl) rfl (by decide) (yr_move rfl rfl) ?_
                refine VL.nil ?_
                refine VE.round (x + 1) ?_ ?_ ?_ ?_ ?_
                · exact (.cons (congrArg (fun n => some (Value.float .f32 n)) (by rw [wbI_in (by omega) (by omega) (by omega) hge.1 hge.2.1]; first | exact (wbN_yes (by assumption) (by assumption)).symm | exact (wbN_no1 (by assumption)).symm | exact (wbN_no2 (by assumption)).symm)) (.cons rfl .nil))
                · exact (.cons rfl (.cons rfl (.cons rfl (.cons rfl (.cons rfl (.cons rfl (.cons rfl (.cons rfl (.cons rfl (.cons rfl (.cons rfl (.cons rfl .nil))))))))))))
                · exact (fun w hw => by first | exact hw.sub ((List.sublist_cons_self _ _).trans (List.sublist_cons_self _ _)) | exact hw.sub (List.sublist_cons_self _ _))
                · exact ⟨by omega, trivial⟩
                · (try dsimp only); omega
              · skip
                refine V.skip ?_
                refine VE.block_normal ?_
                refine VE.then_wp ?_
                refine V.region ?_
                refine VL.r (.inl rfl) rfl (by decide) (yr_int rfl rfl rfl (.inl ⟨rfl, wrap_in (by omega)⟩)) ?_
                refine VL.r (.inl rfl) rfl (by decide) (yr_move rfl rfl) ?_
                refine VL.nil ?_
                refine VE.round (x + 1) ?_ ?_ ?_ ?_ ?_
                · exact (.cons (congrArg (fun n => some (Value.float .f32 n)) (by rw [wbI_in (by omega) (by omega) (by omega) hge.1 hge.2.1]; first | exact (wbN_yes (by assumption) (by assumption)).symm | exact (wbN_no1 (by assumption)).symm | exact (wbN_no2 (by assumption)).symm)) (.cons rfl .nil))
                · exact (.cons rfl (.cons rfl (.cons rfl (.cons rfl (.cons rfl (.cons rfl (.cons rfl (.cons rfl (.cons rfl (.cons rfl (.cons rfl (.cons rfl .nil))))))))))))
                · exact (fun w hw => by first | exact hw.sub ((List.sublist_cons_self _ _).trans (List.sublist_cons_self _ _)) | exact hw.sub (List.sublist_cons_self _ _))
                · exact ⟨by omega, trivial⟩
                · (try dsimp only); omega
          · skip
            replace h6 := ic_lss' h6
            refine V.exit ?_
            refine VE.then_exit ?_
            refine VE.then_exit ?_
            refine VE.block_here ?_
            refine VE.block_normal ?_
            refine VE.then_wp ?_
            refine V.region ?_
            refine VL.r (.inl rfl) rfl (by decide) (yr_int rfl rfl rfl (.inl ⟨rfl, wrap_in (by omega)⟩)) ?_
            refine VL.r (.inl rfl) rfl (by decide) (yr_move rfl rfl) ?_
            refine VL.nil ?_
            refine VE.round (y + 1) ?_ ?_ ?_ ?_ ?_
            · exact (.cons (congrArg (fun n => some (Value.float .f32 n)) (by rw [show x = hvN W from by omega, wbU_xn hge.1])) (.cons rfl .nil))
            · exact (.cons rfl (.cons rfl (.cons rfl (.cons rfl (.cons rfl (.cons rfl (.cons rfl (.cons rfl .nil))))))))
            · exact (fun w hw => hw.sub (List.sublist_cons_self _ _))
            · exact ⟨by omega, trivial⟩
            · (try dsimp only); omega
        · skip
          replace h5 := ic_lss' h5
          refine V.exit ?_
          refine VE.then_exit ?_
          refine VE.then_exit ?_
          refine VE.block_here ?_
          refine VE.block_normal ?_
          refine VE.then_wp ?_
          refine V.region ?_
          refine VL.r (.inl rfl) rfl (by decide) (yr_int rfl rfl rfl (.inl ⟨rfl, wrap_in (by omega)⟩)) ?_
          refine VL.r (.inl rfl) rfl (by decide) (yr_move rfl rfl) ?_
          refine VL.nil ?_
          refine VE.round (z + 1) ?_ ?_ ?_ ?_ ?_
          · exact (.cons (congrArg (fun n => some (Value.float .f32 n)) (by rw [show y = hvN H from by omega, wbU_yn hge.2.1])) (.cons rfl .nil))
          · exact (.cons rfl (.cons rfl (.cons rfl (.cons rfl .nil))))
          · exact (fun w hw => hw.sub (List.sublist_cons_self _ _))
          · exact ⟨by omega, trivial⟩
          · (try dsimp only); omega
      · skip
        replace h4 := ic_lss' h4
        refine V.exit ?_
        refine VE.then_exit ?_
        refine VE.then_exit ?_
        refine VE.block_here ?_
        refine VE.then_wp ?_
        refine V.seq ?_
        refine V.region ?_
        refine VL.r (.inl rfl) rfl (by decide) (yr_move rfl rfl) ?_
        refine VL.q (.inl rfl) rfl (by decide) (yq_callf rfl known140_WbM (.cons rfl .nil) (fun w hw => c_ifNum)) ?_
        refine VL.r (.inl rfl) rfl (by decide) (yr_extract rfl rfl rfl (by nofun)) ?_
        refine VL.r (.inl rfl) rfl (by decide) (yr_extract rfl rfl rfl (by nofun)) ?_
        refine VL.r (.inl rfl) rfl (by decide) (yr_assign rfl rfl) ?_
        refine VL.r (.inl rfl) rfl (by decide) (yr_assign rfl rfl) ?_
        refine VL.nil ?_
        refine VE.then_wp ?_
        refine V.ret ?_
        refine ret2 rfl rfl rfl (by nofun) (by nofun) (fun w1 hw => ?_)
        first
          | (obtain rfl : z = hvN D := by omega
             have hE : wbL ws vs (f1, f2, f3) st (W : Int) (H : Int) (D : Int) = (wbU ws vs (f1, f2, f3) st W H D (nd W H 0 0 (hvN D))) := wbU_zn hge.1 hge.2.1
             cases hf : fin (wbU ws vs (f1, f2, f3) st W H D (nd W H 0 0 (hvN D))) with
             | false =>
               have hs : wbOk ws vs (f1, f2, f3) st (W : Int) (H : Int) (D : Int) = false := wb_no3 (by rw [hE]; exact hf)
               exact ⟨by rw [wbD_no hs, hs]; rfl, hw.below⟩
             | true =>
               have hs : wbOk ws vs (f1, f2, f3) st (W : Int) (H : Int) (D : Int) = true := wb_yes (by assumption) hok (by rw [hE]; exact hf)
               exact ⟨by rw [wbD_yes hs, hs, hE]; rfl, hw.below⟩)
          | (have hs : wbOk ws vs (f1, f2, f3) st wi hi de = false := by first | exact wb_no1 (by assumption) | exact wb_no2 (by assumption)); (exact ⟨by rw [wbD_no hs, hs], hw.below⟩)

theorem c_specWb {w : World} {a : Option Addr} {c : Nat} {f : Nat → Option Addr × Nat} {ws : List Wr} {f1 f2 f3 st : Nat} {wi hi de : Int} {d : Option Addr} {e : Nat} {vs : List V3} (hA : Cl w a (whd f ws)) (hR : WRws w f ws) (hn : wbulk ws ≤ 1050000) (hV : Cl w d (vl vs)) : Pure Try.prog 51 [.slice a ws.length c, .agg #[.float .f32 f1, .float .f32 f2, .float .f32 f3, .float .f32 st, .int .i64 wi, .int .i64 hi, .int .i64 de, .slice d vs.length e]] w (.tuple #[.float .f32 (wbD ws vs (f1, f2, f3) st wi hi de), .bool (wbOk ws vs (f1, f2, f3) st wi hi de)]) := by
  refine Pure.enter Try.func51 rfl Try.ntmps51 (Nat.le_of_ble_eq_true rfl) ?_
  have hwl : ws.length ≤ wbulk ws := by unfold wbulk; omega
  have hrw : ∀ k, k < ws.length → (ws.getD k zw).1.length ≤ 1050000 := fun k hk => by have := wbulk_row hk; omega
  refine V.seq ?_
  refine V.region ?_
  refine VL.new1 (.inl rfl) rfl (by decide) (yn_box rfl rfl (.inr ⟨rfl, rfl⟩)) ?_
  intro b3
  refine VL.r (.inl rfl) rfl (by decide) (yr_assign (u := .float .f32 0) rfl rfl) ?_
  refine VL.r (.inl rfl) rfl (by decide) (yr_assign (u := .bool false) rfl rfl) ?_
  refine VL.nil ?_
  refine VE.then_wp ?_
  refine V.seq ?_
  refine V.seq ?_
  refine V.region ?_
  refine VL.r (.inl rfl) rfl (by decide) (yr_move rfl rfl) ?_
  refine VL.q (.inl rfl) rfl (by decide) (yq_callf rfl known116_WbM (.cons rfl .nil) (fun w hw => (c_l02Are (by first | exact Sees.root (by assumption) w hw | exact Sees.own (by repeat (first | exact List.mem_cons_self | exact List.mem_append_left _ (by assumption) | apply List.mem_cons_of_mem | apply List.mem_append_right)) w hw) (by first | exact WRws.root (by assumption) hw | exact WRws.own (by repeat (first | exact WRowsIn.here | exact WRowsIn.last | apply WRowsIn.there | apply WRowsIn.thereS)) hw) (by omega)))) ?_
  refine VL.r (.inl rfl) rfl (by decide) (yr_not rfl rfl) ?_
  refine VL.r (.inl rfl) rfl (by decide) (yr_move rfl rfl) ?_
  refine VX.split 19 _ rfl (fun h1 => ?_) (fun h1 => ?_)
  · skip
    replace h1 := bnot_t h1
    refine VL.no rfl rfl rfl rfl rfl (by decide) ?_
    refine VL.no rfl rfl rfl rfl rfl (by decide) ?_
    refine VL.r (.inl rfl) rfl (by decide) (yr_pick_t (u := .bool true) rfl rfl rfl) ?_
    refine VL.nil ?_
    refine VE.then_wp ?_
    refine V.condT rfl ?_
    refine V.seq ?_
    refine V.region ?_
    refine VL.r (.inl rfl) rfl (by decide) (yr_assign (u := .float .f32 0) rfl rfl) ?_
    refine VL.r (.inl rfl) rfl (by decide) (yr_assign (u := .bool false) rfl rfl) ?_
    refine VL.nil ?_
    refine VE.then_wp ?_
    refine V.ret ?_
    refine VE.then_ret ?_
    refine ret2 rfl rfl rfl (by nofun) (by nofun) (fun w1 hw => ?_)
    first
      | (obtain rfl : k = W * H * D := by omega
         have hE : wbL ws vs (f1, f2, f3) st (W : Int) (H : Int) (D : Int) = (wbU ws vs (f1, f2, f3) st W H D (W * H * D)) := rfl
         cases hf : fin (wbU ws vs (f1, f2, f3) st W H D (W * H * D)) with
         | false =>
           have hs : wbOk ws vs (f1, f2, f3) st (W : Int) (H : Int) (D : Int) = false := wb_no3 (by rw [hE]; exact hf)
           exact ⟨by rw [wbD_no hs, hs]; rfl, hw.below⟩
         | true =>
           have hs : wbOk ws vs (f1, f2, f3) st (W : Int) (H : Int) (D : Int) = true := wb_yes (by assumption) hok (by rw [hE]; exact hf)
           exact ⟨by rw [wbD_yes hs, hs, hE]; rfl, hw.below⟩)
      | (have hs : wbOk ws vs (f1, f2, f3) st wi hi de = false := by first | exact wb_no1 (by assumption) | exact wb_no2 (by assumption)); (exact ⟨by rw [wbD_no hs, hs], hw.below⟩)
  · skip
    replace h1 := bnot_f h1
    refine VL.q (.inr ⟨_, _, _, rfl, rfl, rfl⟩) rfl (by decide) (yq_callf rfl known62_WbM (.cons rfl .nil) (fun w hw => (c_l06Is (by first | exact Sees.root (by assumption) w hw | exact Sees.own (by repeat (first | exact List.mem_cons_self | exact List.mem_append_left _ (by assumption) | apply List.mem_cons_of_mem | apply List.mem_append_right)) w hw)))) ?_
    refine VL.r (.inr ⟨_, _, _, rfl, rfl, rfl⟩) rfl (by decide) (yr_not rfl rfl) ?_
    refine VL.r (.inl rfl) rfl (by decide) (yr_pick_f rfl rfl rfl) ?_
    refine VL.nil ?_
    refine VE.then_wp ?_
    refine V.cond rfl (fun h3 => ?_) (fun h3 => ?_)
    · skip
      replace h3 := bnot_t h3
      refine V.seq ?_
      refine V.region ?_
      refine VL.r (.inl rfl) rfl (by decide) (yr_assign (u := .float .f32 0) rfl rfl) ?_
      refine VL.r (.inl rfl) rfl (by decide) (yr_assign (u := .bool false) rfl rfl) ?_
      refine VL.nil ?_
      refine VE.then_wp ?_
      refine V.ret ?_
      refine VE.then_ret ?_
      refine ret2 rfl rfl rfl (by nofun) (by nofun) (fun w1 hw => ?_)
      first
        | (obtain rfl : k = W * H * D := by omega
           have hE : wbL ws vs (f1, f2, f3) st (W : Int) (H : Int) (D : Int) = (wbU ws vs (f1, f2, f3) st W H D (W * H * D)) := rfl
           cases hf : fin (wbU ws vs (f1, f2, f3) st W H D (W * H * D)) with
           | false =>
             have hs : wbOk ws vs (f1, f2, f3) st (W : Int) (H : Int) (D : Int) = false := wb_no3 (by rw [hE]; exact hf)
             exact ⟨by rw [wbD_no hs, hs]; rfl, hw.below⟩
           | true =>
             have hs : wbOk ws vs (f1, f2, f3) st (W : Int) (H : Int) (D : Int) = true := wb_yes (by assumption) hok (by rw [hE]; exact hf)
             exact ⟨by rw [wbD_yes hs, hs, hE]; rfl, hw.below⟩)
        | (have hs : wbOk ws vs (f1, f2, f3) st wi hi de = false := by first | exact wb_no1 (by assumption) | exact wb_no2 (by assumption)); (exact ⟨by rw [wbD_no hs, hs], hw.below⟩)
    · skip
      replace h3 := bnot_f h3
      have hok : meshOk (f1, f2, f3) st wi hi de vs.length = true := h3
      obtain ⟨W, H, D, rfl, rfl, rfl, hge, hle, hbd, hN⟩ := mesh_open hok
      have hb1 := hvN_le hge.1
      have hb2 := hvN_le hge.2.1
      have hb3 := hvN_le hge.2.2
      refine V.skip ?_
      refine VE.then_wp ?_
      refine V.seq ?_
      refine V.region ?_
      refine VL.r (.inl rfl) rfl (by decide) (yr_assign (u := .float .f32 0) rfl rfl) ?_
      refine VL.nil ?_
      refine VE.then_wp ?_
      refine V.seq ?_
      refine V.seq ?_
      refine V.region ?_
      refine VL.r (.inl rfl) rfl (by decide) (yr_assign (u := .int .i64 0) rfl rfl) ?_
      refine VL.nil ?_
      refine VE.then_wp ?_
      refine V.block ?_
      refine V.loopc (G := Nat) [(0, _), (3, _)] (fun (k : Nat) => k ≤ W * H * D ∧ True) (fun (k : Nat) => [⟨some ⟨b3, 0, none⟩, [.float .f32 f1, .float .f32 f2, .float .f32 f3, .float .f32 st, .int .i64 (W : Int), .int .i64 (H : Int), .int .i64 (D : Int), .slice d vs.length e], 8, 35⟩]) (fun (k : Nat) => [(6, .float .f32 (wbU ws vs (f1, f2, f3) st W H D (k))), (7, .int .i64 (k : Int))]) (fun (k : Nat) => W * H * D - k) 0 (.cons rfl (.cons rfl .nil)) (.cons (congrArg (fun n => some (Value.float .f32 n)) (by exact wbU_z.symm)) (.cons rfl .nil)) ?_ ?_ ?_
      · exact (fun w hw => hw)
      · exact (by exact ⟨Nat.zero_le _, trivial⟩)
      rintro k ⟨hk, _⟩
      show V _ _ _ [⟨some ⟨b3, 0, none⟩, [.float .f32 f1, .float .f32 f2, .float .f32 f3, .float .f32 st, .int .i64 (W : Int), .int .i64 (H : Int), .int .i64 (D : Int), .slice d vs.length e], 8, 35⟩] ([(6, .float .f32 (wbU ws vs (f1, f2, f3) st W H D (k))), (7, .int .i64 (k : Int))] ++ [(0, _), (3, _)]) _ _
      have hkm := Nat.mod_le k W
      have hkW := Nat.div_le_self k W
      have hkn := Nat.mod_le (k / W) H
      have hkH := Nat.div_le_self (k / W) H
      have hWH : W * H ≤ 216 := Nat.le_trans (Nat.le_mul_of_pos_right _ hge.2.2) hbd
      refine V.seq ?_
      refine V.seq ?_
      refine V.region ?_
      refine VL.r (.inl rfl) rfl (by decide) (yr_move rfl rfl) ?_
      refine VL.r (.inl rfl) rfl (by decide) (yr_fieldAddr rfl Try.underlying35 rfl rfl sz2_WbM (by decide) rfl) ?_
      refine VL.q (.inl rfl) rfl (by decide) (yq_load rfl fb2_WbM rfl (by first | exact Sees.root (by assumption) | exact Sees.own (by repeat (first | exact List.mem_cons_self | exact List.mem_append_left _ (by assumption) | apply List.mem_cons_of_mem | apply List.mem_append_right)) | exact Sees.root (hR _ (by omega)) | exact Sees.own (RowsIn.mem (by repeat (first | exact RowsIn.here | exact RowsIn.last | apply RowsIn.there | apply RowsIn.thereS)) _ (by omega)) | exact Sees.own (WRowsIn.mem (by repeat (first | exact WRowsIn.here | exact WRowsIn.last | apply WRowsIn.there | apply WRowsIn.thereS)) _ (by omega))) rfl) ?_
      refine VL.r (.inl rfl) rfl (by decide) (yr_fieldAddr rfl Try.underlying35 rfl rfl sz2_WbM (by decide) rfl) ?_
      refine VL.q (.inl rfl) rfl (by decide) (yq_load rfl fb2_WbM rfl (by first | exact Sees.root (by assumption) | exact Sees.own (by repeat (first | exact List.mem_cons_self | exact List.mem_append_left _ (by assumption) | apply List.mem_cons_of_mem | apply List.mem_append_right)) | exact Sees.root (hR _ (by omega)) | exact Sees.own (RowsIn.mem (by repeat (first | exact RowsIn.here | exact RowsIn.last | apply RowsIn.there | apply RowsIn.thereS)) _ (by omega)) | exact Sees.own (WRowsIn.mem (by repeat (first | exact WRowsIn.here | exact WRowsIn.last | apply WRowsIn.there | apply WRowsIn.thereS)) _ (by omega))) rfl) ?_
      refine VL.r (.inl rfl) rfl (by decide) (yr_mulN W H rfl rfl rfl (by omega) (by omega) (Nat.le_trans (by first | exact hWH | exact hbd) (by decide))) ?_
      refine VL.r (.inl rfl) rfl (by decide) (yr_fieldAddr rfl Try.underlying35 rfl rfl sz2_WbM (by decide) rfl) ?_
      refine VL.q (.inl rfl) rfl (by decide) (yq_load rfl fb2_WbM rfl (by first | exact Sees.root (by assumption) | exact Sees.own (by repeat (first | exact List.mem_cons_self | exact List.mem_append_left _ (by assumption) | apply List.mem_cons_of_mem | apply List.mem_append_right)) | exact Sees.root (hR _ (by omega)) | exact Sees.own (RowsIn.mem (by repeat (first | exact RowsIn.here | exact RowsIn.last | apply RowsIn.there | apply RowsIn.thereS)) _ (by omega)) | exact Sees.own (WRowsIn.mem (by repeat (first | exact WRowsIn.here | exact WRowsIn.last | apply WRowsIn.there | apply WRowsIn.thereS)) _ (by omega))) rfl) ?_
      refine VL.r (.inl rfl) rfl (by decide) (yr_mulN (W * H) D rfl rfl rfl (by omega) (by omega) (Nat.le_trans (by first | exact hWH | exact hbd) (by decide))) ?_
      refine VL.r (.inl rfl) rfl (by decide) (yr_icmp rfl (.inr (.inr (.inl rfl))) rfl rfl) ?_
      refine VL.nil ?_
      refine VE.then_wp ?_
      refine V.cond rfl (fun h4 => ?_) (fun h4 => ?_)
      · skip
        replace h4 := ic_lss h4
        refine V.skip ?_
        refine VE.then_wp ?_
        refine V.seq ?_
        refine V.block ?_
        refine V.seq ?_
        refine Dr.V.drawR [(0, 5), (1, 5), (2, 5), (3, 5), (4, 5), (5, 5), (6, 5), (7, 5), (8, 5), (9, 5), (10, 5), (11, 5)] [] [] _ mixed_WbM (by kernel_rfl) (fun w hw => hw) ?_
        refine Dr.SW.r rfl (.inl rfl) rfl (by decide) (yr_move rfl rfl) ?_
        refine Dr.SW.r rfl (.inl rfl) rfl (by decide) (yr_fieldAddr rfl Try.underlying35 rfl rfl sz2_WbM (by decide) rfl) ?_
        refine Dr.SW.p rfl (.inl rfl) rfl (by decide) (yq_load rfl fb2_WbM rfl (by first | exact Sees.root (by assumption) | exact Sees.own (by (try simp only [List.append_assoc, List.cons_append, List.nil_append]); repeat (first | exact List.mem_cons_self | exact List.mem_append_left _ (by assumption) | apply List.mem_cons_of_mem | apply List.mem_append_right)) | exact Sees.root (hR _ (by omega)) | exact Sees.own (RowsIn.mem (by (try simp only [List.append_assoc, List.cons_append, List.nil_append]); repeat (first | exact RowsIn.here | exact RowsIn.last | apply RowsIn.there | apply RowsIn.thereS)) _ (by omega)) | exact Sees.own (WRowsIn.mem (by (try simp only [List.append_assoc, List.cons_append, List.nil_append]); repeat (first | exact WRowsIn.here | exact WRowsIn.last | apply WRowsIn.there | apply WRowsIn.thereS)) _ (by omega))) rfl) ?_
        refine Dr.SW.r rfl (.inl rfl) rfl (by decide) (yr_remW (k) W rfl rfl rfl rfl rfl (by omega)) ?_
        refine Dr.SW.r rfl (.inl rfl) rfl (by decide) (yr_fieldAddr rfl Try.underlying35 rfl rfl sz2_WbM (by decide) rfl) ?_
        refine Dr.SW.p rfl (.inl rfl) rfl (by decide) (yq_load rfl fb2_WbM rfl (by first | exact Sees.root (by assumption) | exact Sees.own (by (try simp only [List.append_assoc, List.cons_append, List.nil_append]); repeat (first | exact List.mem_cons_self | exact List.mem_append_left _ (by assumption) | apply List.mem_cons_of_mem | apply List.mem_append_right)) | exact Sees.root (hR _ (by omega)) | exact Sees.own (RowsIn.mem (by (try simp only [List.append_assoc, List.cons_append, List.nil_append]); repeat (first | exact RowsIn.here | exact RowsIn.last | apply RowsIn.there | apply RowsIn.thereS)) _ (by omega)) | exact Sees.own (WRowsIn.mem (by (try simp only [List.append_assoc, List.cons_append, List.nil_append]); repeat (first | exact WRowsIn.here | exact WRowsIn.last | apply WRowsIn.there | apply WRowsIn.thereS)) _ (by omega))) rfl) ?_
        refine Dr.SW.p rfl (.inl rfl) rfl (by decide) (yq_callf rfl known130_WbM (.cons rfl (.cons rfl .nil)) (fun w hw => (c_middle (x := k % W) (n := W) (by omega) (by omega)))) ?_
        refine Dr.SW.r rfl (.inl rfl) rfl (by decide) (yr_move rfl rfl) ?_
        refine Dr.SW.r rfl (.inl rfl) rfl (by decide) (yr_extract rfl rfl rfl (by nofun)) ?_
        refine Dr.SW.r rfl (.inl rfl) rfl (by decide) (yr_extract rfl rfl rfl (by nofun)) ?_
        refine Dr.SW.r rfl (.inl rfl) rfl (by decide) (yr_assign rfl rfl) ?_
        refine Dr.SW.r rfl (.inl rfl) rfl (by decide) (yr_assign rfl rfl) ?_
        refine Dr.SW.done ?_
        refine Dr.eqO (by simp only [List.append_nil, List.append_assoc, List.cons_append, List.nil_append] <;> rfl) ?_
        refine VE.then_wp ?_
        refine V.seq ?_
        refine Dr.V.drawR [(0, 5), (1, 5), (2, 5), (3, 5), (4, 5), (5, 5), (6, 5), (7, 5), (8, 5), (9, 5), (10, 5), (11, 5), (12, 5), (13, 5), (14, 5)] [] [] _ mixed_WbM (by kernel_rfl) (fun w hw => hw) ?_
        refine Dr.SW.r rfl (.inl rfl) rfl (by decide) (yr_move rfl rfl) ?_
        refine Dr.SW.r rfl (.inl rfl) rfl (by decide) (yr_fieldAddr rfl Try.underlying35 rfl rfl sz2_WbM (by decide) rfl) ?_
        refine Dr.SW.p rfl (.inl rfl) rfl (by decide) (yq_load rfl fb2_WbM rfl (by first | exact Sees.root (by assumption) | exact Sees.own (by (try simp only [List.append_assoc, List.cons_append, List.nil_append]); repeat (first | exact List.mem_cons_self | exact List.mem_append_left _ (by assumption) | apply List.mem_cons_of_mem | apply List.mem_append_right)) | exact Sees.root (hR _ (by omega)) | exact Sees.own (RowsIn.mem (by (try simp only [List.append_assoc, List.cons_append, List.nil_append]); repeat (first | exact RowsIn.here | exact RowsIn.last | apply RowsIn.there | apply RowsIn.thereS)) _ (by omega)) | exact Sees.own (WRowsIn.mem (by (try simp only [List.append_assoc, List.cons_append, List.nil_append]); repeat (first | exact WRowsIn.here | exact WRowsIn.last | apply WRowsIn.there | apply WRowsIn.thereS)) _ (by omega))) rfl) ?_
        refine Dr.SW.r rfl (.inl rfl) rfl (by decide) (yr_quoW (k) W rfl rfl rfl rfl rfl (by omega) (by omega)) ?_
        refine Dr.SW.r rfl (.inl rfl) rfl (by decide) (yr_fieldAddr rfl Try.underlying35 rfl rfl sz2_WbM (by decide) rfl) ?_
        refine Dr.SW.p rfl (.inl rfl) rfl (by decide) (yq_load rfl fb2_WbM rfl (by first | exact Sees.root (by assumption) | exact Sees.own (by (try simp only [List.append_assoc, List.cons_append, List.nil_append]); repeat (first | exact List.mem_cons_self | exact List.mem_append_left _ (by assumption) | apply List.mem_cons_of_mem | apply List.mem_append_right)) | exact Sees.root (hR _ (by omega)) | exact Sees.own (RowsIn.mem (by (try simp only [List.append_assoc, List.cons_append, List.nil_append]); repeat (first | exact RowsIn.here | exact RowsIn.last | apply RowsIn.there | apply RowsIn.thereS)) _ (by omega)) | exact Sees.own (WRowsIn.mem (by (try simp only [List.append_assoc, List.cons_append, List.nil_append]); repeat (first | exact WRowsIn.here | exact WRowsIn.last | apply WRowsIn.there | apply WRowsIn.thereS)) _ (by omega))) rfl) ?_
        refine Dr.SW.r rfl (.inl rfl) rfl (by decide) (yr_remW (k / W) H rfl rfl rfl rfl rfl (by omega)) ?_
        refine Dr.SW.r rfl (.inl rfl) rfl (by decide) (yr_fieldAddr rfl Try.underlying35 rfl rfl sz2_WbM (by decide) rfl) ?_
        refine Dr.SW.p rfl (.inl rfl) rfl (by decide) (yq_load rfl fb2_WbM rfl (by first | exact Sees.root (by assumption) | exact Sees.own (by (try simp only [List.append_assoc, List.cons_append, List.nil_append]); repeat (first | exact List.mem_cons_self | exact List.mem_append_left _ (by assumption) | apply List.mem_cons_of_mem | apply List.mem_append_right)) | exact Sees.root (hR _ (by omega)) | exact Sees.own (RowsIn.mem (by (try simp only [List.append_assoc, List.cons_append, List.nil_append]); repeat (first | exact RowsIn.here | exact RowsIn.last | apply RowsIn.there | apply RowsIn.thereS)) _ (by omega)) | exact Sees.own (WRowsIn.mem (by (try simp only [List.append_assoc, List.cons_append, List.nil_append]); repeat (first | exact WRowsIn.here | exact WRowsIn.last | apply WRowsIn.there | apply WRowsIn.thereS)) _ (by omega))) rfl) ?_
        refine Dr.SW.p rfl (.inl rfl) rfl (by decide) (yq_callf rfl known130_WbM (.cons rfl (.cons rfl .nil)) (fun w hw => (c_middle (x := k / W % H) (n := H) (by omega) (by omega)))) ?_
        refine Dr.SW.r rfl (.inl rfl) rfl (by decide) (yr_move rfl rfl) ?_
        refine Dr.SW.r rfl (.inl rfl) rfl (by decide) (yr_extract rfl rfl rfl (by nofun)) ?_
        refine Dr.SW.r rfl (.inl rfl) rfl (by decide) (yr_extract rfl rfl rfl (by nofun)) ?_
        refine Dr.SW.r rfl (.inl rfl) rfl (by decide) (yr_assign rfl rfl) ?_
        refine Dr.SW.r rfl (.inl rfl) rfl (by decide) (yr_assign rfl rfl) ?_
        refine Dr.SW.done ?_
        refine Dr.eqO (by simp only [List.append_nil, List.append_assoc, List.cons_append, List.nil_append] <;> rfl) ?_
        refine VE.then_wp ?_
        refine V.seq ?_
        refine Dr.V.drawR [(0, 5), (1, 5), (2, 5), (3, 5), (4, 5), (5, 5), (6, 5), (7, 5), (8, 5), (9, 5), (10, 5), (11, 5), (12, 5), (13, 5), (14, 5)] [] [] _ mixed_WbM (by kernel_rfl) (fun w hw => hw) ?_
        refine Dr.SW.r rfl (.inl rfl) rfl (by decide) (yr_move rfl rfl) ?_
        refine Dr.SW.r rfl (.inl rfl) rfl (by decide) (yr_fieldAddr rfl Try.underlying35 rfl rfl sz2_WbM (by decide) rfl) ?_
        refine Dr.SW.p rfl (.inl rfl) rfl (by decide) (yq_load rfl fb2_WbM rfl (by first | exact Sees.root (by assumption) | exact Sees.own (by (try simp only [List.append_assoc, List.cons_append, List.nil_append]); repeat (first | exact List.mem_cons_self | exact List.mem_append_left _ (by assumption) | apply List.mem_cons_of_mem | apply List.mem_append_right)) | exact Sees.root (hR _ (by omega)) | exact Sees.own (RowsIn.mem (by (try simp only [List.append_assoc, List.cons_append, List.nil_append]); repeat (first | exact RowsIn.here | exact RowsIn.last | apply RowsIn.there | apply RowsIn.thereS)) _ (by omega)) | exact Sees.own (WRowsIn.mem (by (try simp only [List.append_assoc, List.cons_append, List.nil_append]); repeat (first | exact WRowsIn.here | exact WRowsIn.last | apply WRowsIn.there | apply WRowsIn.thereS)) _ (by omega))) rfl) ?_
        refine Dr.SW.r rfl (.inl rfl) rfl (by decide) (yr_quoW (k) W rfl rfl rfl rfl rfl (by omega) (by omega)) ?_
        refine Dr.SW.r rfl (.inl rfl) rfl (by decide) (yr_fieldAddr rfl Try.underlying35 rfl rfl sz2_WbM (by decide) rfl) ?_
        refine Dr.SW.p rfl (.inl rfl) rfl (by decide) (yq_load rfl fb2_WbM rfl (by first | exact Sees.root (by assumption) | exact Sees.own (by (try simp only [List.append_assoc, List.cons_append, List.nil_append]); repeat (first | exact List.mem_cons_self | exact List.mem_append_left _ (by assumption) | apply List.mem_cons_of_mem | apply List.mem_append_right)) | exact Sees.root (hR _ (by omega)) | exact Sees.own (RowsIn.mem (by (try simp only [List.append_assoc, List.cons_append, List.nil_append]); repeat (first | exact RowsIn.here | exact RowsIn.last | apply RowsIn.there | apply RowsIn.thereS)) _ (by omega)) | exact Sees.own (WRowsIn.mem (by (try simp only [List.append_assoc, List.cons_append, List.nil_append]); repeat (first | exact WRowsIn.here | exact WRowsIn.last | apply WRowsIn.there | apply WRowsIn.thereS)) _ (by omega))) rfl) ?_
        refine Dr.SW.r rfl (.inl rfl) rfl (by decide) (yr_quoW (k / W) H rfl rfl rfl rfl rfl (by omega) (by omega)) ?_
        refine Dr.SW.r rfl (.inl rfl) rfl (by decide) (yr_fieldAddr rfl Try.underlying35 rfl rfl sz2_WbM (by decide) rfl) ?_
        refine Dr.SW.p rfl (.inl rfl) rfl (by decide) (yq_load rfl fb2_WbM rfl (by first | exact Sees.root (by assumption) | exact Sees.own (by (try simp only [List.append_assoc, List.cons_append, List.nil_append]); repeat (first | exact List.mem_cons_self | exact List.mem_append_left _ (by assumption) | apply List.mem_cons_of_mem | apply List.mem_append_right)) | exact Sees.root (hR _ (by omega)) | exact Sees.own (RowsIn.mem (by (try simp only [List.append_assoc, List.cons_append, List.nil_append]); repeat (first | exact RowsIn.here | exact RowsIn.last | apply RowsIn.there | apply RowsIn.thereS)) _ (by omega)) | exact Sees.own (WRowsIn.mem (by (try simp only [List.append_assoc, List.cons_append, List.nil_append]); repeat (first | exact WRowsIn.here | exact WRowsIn.last | apply WRowsIn.there | apply WRowsIn.thereS)) _ (by omega))) rfl) ?_
        refine Dr.SW.p rfl (.inl rfl) rfl (by decide) (yq_callf rfl known130_WbM (.cons rfl (.cons rfl .nil)) (fun w hw => (c_middle (x := k / W / H) (n := D) (by omega) (by omega)))) ?_
        refine Dr.SW.r rfl (.inl rfl) rfl (by decide) (yr_move rfl rfl) ?_
        refine Dr.SW.r rfl (.inl rfl) rfl (by decide) (yr_extract rfl rfl rfl (by nofun)) ?_
        refine Dr.SW.r rfl (.inl rfl) rfl (by decide) (yr_extract rfl rfl rfl (by nofun)) ?_
        refine Dr.SW.r rfl (.inl rfl) rfl (by decide) (yr_assign rfl rfl) ?_
        refine Dr.SW.r rfl (.inl rfl) rfl (by decide) (yr_assign rfl rfl) ?_
        refine Dr.SW.done ?_
        refine Dr.eqO (by simp only [List.append_nil, List.append_assoc, List.cons_append, List.nil_append] <;> rfl) ?_
        refine VE.then_wp ?_
        refine V.seq ?_
        refine V.seq ?_
        refine V.region ?_
        refine VL.r (.inl rfl) rfl (by decide) (yr_move rfl rfl) ?_
        refine VL.r (.inl rfl) rfl (by decide) (yr_not rfl rfl) ?_
        refine VL.r (.inl rfl) rfl (by decide) (yr_move rfl rfl) ?_
        refine VX.split 73 _ rfl (fun h5 => ?_) (fun h5 => ?_)
        · skip
          replace h5 := bnot_t h5
          refine VL.no rfl rfl rfl rfl rfl (by decide) ?_
          refine VL.no rfl rfl rfl rfl rfl (by decide) ?_
          refine VL.r (.inl rfl) rfl (by decide) (yr_pick_t (u := .bool true) rfl rfl rfl) ?_
          refine VL.r (.inl rfl) rfl (by decide) (yr_move rfl rfl) ?_
          refine VL.no rfl rfl rfl rfl rfl (by decide) ?_
          refine VL.no rfl rfl rfl rfl rfl (by decide) ?_
          refine VL.r (.inl rfl) rfl (by decide) (yr_pick_t (u := .bool true) rfl rfl rfl) ?_
          refine VL.nil ?_
          refine VE.then_wp ?_
          refine V.condT rfl ?_
          refine V.exit ?_
          refine VE.then_exit ?_
          refine VE.block_here ?_
          refine VE.then_wp ?_
          refine V.region ?_
          refine VL.r (.inl rfl) rfl (by decide) (yr_move rfl rfl) ?_
          refine VL.r (.inl rfl) rfl (by decide) (yr_int rfl rfl rfl (.inl ⟨rfl, wrap_in (by omega)⟩)) ?_
          refine VL.r (.inl rfl) rfl (by decide) (yr_assign rfl rfl) ?_
          refine VL.nil ?_
          refine VE.round (k + 1) ?_ ?_ ?_ ?_ ?_
          · exact (.cons (congrArg (fun n => some (Value.float .f32 n)) (by first | exact (wbS_no1 (by assumption)).symm | exact (wbS_no2 (by assumption)).symm | exact (wbS_no3 (by assumption)).symm | (rw [wbS_yes (by assumption) (by assumption) (by assumption)]; first | exact (wbN_yesS (by omega) (by omega) (by omega) (by assumption)).symm | exact (wbN_noS (by omega) (by omega) (by omega) (by assumption)).symm))) (.cons rfl .nil))
          · exact (.cons rfl (.cons rfl .nil))
          · exact (fun w hw => by first | exact hw | exact hw.sub (List.sublist_cons_self _ _))
          · exact ⟨by omega, trivial⟩
          · (try dsimp only); omega
        · skip
          replace h5 := bnot_f h5
          refine VL.r (.inr ⟨_, _, _, rfl, rfl, rfl⟩) rfl (by decide) (yr_move rfl rfl) ?_
          refine VL.r (.inr ⟨_, _, _, rfl, rfl, rfl⟩) rfl (by decide) (yr_not rfl rfl) ?_
          refine VL.r (.inl rfl) rfl (by decide) (yr_pick_f rfl rfl rfl) ?_
          refine VL.r (.inl rfl) rfl (by decide) (yr_move rfl rfl) ?_
          refine VX.split 77 _ rfl (fun h7 => ?_) (fun h7 => ?_)
          · skip
            replace h7 := bnot_t h7
            refine VL.no rfl rfl rfl rfl rfl (by decide) ?_
            refine VL.no rfl rfl rfl rfl rfl (by decide) ?_
            refine VL.r (.inl rfl) rfl (by decide) (yr_pick_t (u := .bool true) rfl rfl rfl) ?_
            refine VL.nil ?_
            refine VE.then_wp ?_
            refine V.condT rfl ?_
            refine V.exit ?_
            refine VE.then_exit ?_
            refine VE.block_here ?_
            refine VE.then_wp ?_
            refine V.region ?_
            refine VL.r (.inl rfl) rfl (by decide) (yr_move rfl rfl) ?_
            refine VL.r (.inl rfl) rfl (by decide) (yr_int rfl rfl rfl (.inl ⟨rfl, wrap_in (by omega)⟩)) ?_
            refine VL.r (.inl rfl) rfl (by decide) (yr_assign rfl rfl) ?_
            refine VL.nil ?_
            refine VE.round (k + 1) ?_ ?_ ?_ ?_ ?_
            · exact (.cons (congrArg (fun n => some (Value.float .f32 n)) (by first | exact (wbS_no1 (by assumption)).symm | exact (wbS_no2 (by assumption)).symm | exact (wbS_no3 (by assumption)).symm | (rw [wbS_yes (by assumption) (by assumption) (by assumption)]; first | exact (wbN_yesS (by omega) (by omega) (by omega) (by assumption)).symm | exact (wbN_noS (by omega) (by omega) (by omega) (by assumption)).symm))) (.cons rfl .nil))
            · exact (.cons rfl (.cons rfl .nil))
            · exact (fun w hw => by first | exact hw | exact hw.sub (List.sublist_cons_self _ _))
            · exact ⟨by omega, trivial⟩
            · (try dsimp only); omega
          · skip
            replace h7 := bnot_f h7
            refine VL.r (.inr ⟨_, _, _, rfl, rfl, rfl⟩) rfl (by decide) (yr_move rfl rfl) ?_
            refine VL.r (.inr ⟨_, _, _, rfl, rfl, rfl⟩) rfl (by decide) (yr_not rfl rfl) ?_
            refine VL.r (.inl rfl) rfl (by decide) (yr_pick_f rfl rfl rfl) ?_
            refine VL.nil ?_
            refine VE.then_wp ?_
            refine V.cond rfl (fun h9 => ?_) (fun h9 => ?_)
            · skip
              replace h9 := bnot_t h9
              refine V.exit ?_
              refine VE.then_exit ?_
              refine VE.block_here ?_
              refine VE.then_wp ?_
              refine V.region ?_
              refine VL.r (.inl rfl) rfl (by decide) (yr_move rfl rfl) ?_
              refine VL.r (.inl rfl) rfl (by decide) (yr_int rfl rfl rfl (.inl ⟨rfl, wrap_in (by omega)⟩)) ?_
              refine VL.r (.inl rfl) rfl (by decide) (yr_assign rfl rfl) ?_
              refine VL.nil ?_
              refine VE.round (k + 1) ?_ ?_ ?_ ?_ ?_
              · exact (.cons (congrArg (fun n => some (Value.float .f32 n)) (by first | exact (wbS_no1 (by assumption)).symm | exact (wbS_no2 (by assumption)).symm | exact (wbS_no3 (by assumption)).symm | (rw [wbS_yes (by assumption) (by assumption) (by assumption)]; first | exact (wbN_yesS (by omega) (by omega) (by omega) (by assumption)).symm | exact (wbN_noS (by omega) (by omega) (by omega) (by assumption)).symm))) (.cons rfl .nil))
              · exact (.cons rfl (.cons rfl .nil))
              · exact (fun w hw => by first | exact hw | exact hw.sub (List.sublist_cons_self _ _))
              · exact ⟨by omega, trivial⟩
              · (try dsimp only); omega
            · skip
              replace h9 := bnot_f h9
              refine V.skip ?_
              refine VE.then_wp ?_
              refine V.seq ?_
              refine V.region ?_
              refine VL.r (.inl rfl) rfl (by decide) (yr_move rfl rfl) ?_
              refine VL.r (.inl rfl) rfl (by decide) (yr_move rfl rfl) ?_
              refine VL.r (.inl rfl) rfl (by decide) (yr_move rfl rfl) ?_
              refine VL.q (.inl rfl) rfl (by decide) (yq_callf rfl known120_WbM (.cons rfl (.cons rfl (.cons rfl (.cons rfl .nil)))) (fun w hw => (c_l06Place (by first | exact Sees.root (by assumption) w hw | exact Sees.own (by repeat (first | exact List.mem_cons_self | exact List.mem_append_left _ (by assumption) | apply List.mem_cons_of_mem | apply List.mem_append_right)) w hw)))) ?_
              refine VL.new1 (.inl rfl) rfl (by decide) (yn_alloc rfl zero32_WbM rfl) ?_
              intro b14
              refine VL.s (.inl rfl) rfl (yc_store rfl sz32_WbM rfl rfl (by repeat (first | exact UpdF.here | apply UpdF.there | apply UpdF.thereS)) (.inr ⟨rfl, rfl⟩) rfl (by first | exact Nat.le_of_ble_eq_true rfl | simp) (by decide) rfl) ?_
              rintro ⟨⟩
              refine VL.nil ?_
              refine VE.then_wp ?_
              refine V.seq ?_
              refine Dr.V.drawR [(0, 5), (1, 5), (2, 5), (3, 5), (4, 5), (5, 5), (6, 5), (7, 5)] [] [] _ mixed_WbM (by kernel_rfl) (fun w hw => hw) ?_
              refine Dr.SW.p rfl (.inl rfl) rfl (by decide) (yq_loadS rfl Try.underlying32 sz32_WbM rfl (by first | exact Sees.root (by assumption) | exact Sees.own (by (try simp only [List.append_assoc, List.cons_append, List.nil_append]); repeat (first | exact List.mem_cons_self | exact List.mem_append_left _ (by assumption) | apply List.mem_cons_of_mem | apply List.mem_append_right)) | exact Sees.root (hR _ (by omega)) | exact Sees.own (RowsIn.mem (by (try simp only [List.append_assoc, List.cons_append, List.nil_append]); repeat (first | exact RowsIn.here | exact RowsIn.last | apply RowsIn.there | apply RowsIn.thereS)) _ (by omega)) | exact Sees.own (WRowsIn.mem (by (try simp only [List.append_assoc, List.cons_append, List.nil_append]); repeat (first | exact WRowsIn.here | exact WRowsIn.last | apply WRowsIn.there | apply WRowsIn.thereS)) _ (by omega))) rfl rfl rfl) ?_
              refine Dr.SW.p rfl (.inl rfl) rfl (by decide) (yq_callf rfl known133_WbM (.cons rfl (.cons rfl .nil)) (fun w hw => (c_l06Btw (p1 := (mplc (f1, f2, f3) st W H D k).1) (p2 := (mplc (f1, f2, f3) st W H D k).2.1) (p3 := (mplc (f1, f2, f3) st W H D k).2.2) (by first | exact Sees.root (by assumption) w hw | exact Sees.own (by (try simp only [List.append_assoc, List.cons_append, List.nil_append]); repeat (first | exact List.mem_cons_self | exact List.mem_append_left _ (by assumption) | apply List.mem_cons_of_mem | apply List.mem_append_right)) w hw) (by first | exact Sees.root (by assumption) w hw | exact Sees.own (by (try simp only [List.append_assoc, List.cons_append, List.nil_append]); repeat (first | exact List.mem_cons_self | exact List.mem_append_left _ (by assumption) | apply List.mem_cons_of_mem | apply List.mem_append_right)) w hw) hN hbd (by omega) (by omega) (by omega)))) ?_
              refine Dr.SW.r rfl (.inl rfl) rfl (by decide) (yr_move rfl rfl) ?_
              refine Dr.SW.p rfl (.inl rfl) rfl (by decide) (yq_loadS rfl Try.underlying32 sz32_WbM rfl (by first | exact Sees.root (by assumption) | exact Sees.own (by (try simp only [List.append_assoc, List.cons_append, List.nil_append]); repeat (first | exact List.mem_cons_self | exact List.mem_append_left _ (by assumption) | apply List.mem_cons_of_mem | apply List.mem_append_right)) | exact Sees.root (hR _ (by omega)) | exact Sees.own (RowsIn.mem (by (try simp only [List.append_assoc, List.cons_append, List.nil_append]); repeat (first | exact RowsIn.here | exact RowsIn.last | apply RowsIn.there | apply RowsIn.thereS)) _ (by omega)) | exact Sees.own (WRowsIn.mem (by (try simp only [List.append_assoc, List.cons_append, List.nil_append]); repeat (first | exact WRowsIn.here | exact WRowsIn.last | apply WRowsIn.there | apply WRowsIn.thereS)) _ (by omega))) rfl rfl rfl) ?_
              refine Dr.SW.p rfl (.inl rfl) rfl (by decide) (yq_callf rfl known121_WbM (.cons rfl (.cons rfl .nil)) (fun w hw => (c_l02All (p1 := (mplc (f1, f2, f3) st W H D k).1) (p2 := (mplc (f1, f2, f3) st W H D k).2.1) (p3 := (mplc (f1, f2, f3) st W H D k).2.2) (by first | exact Sees.root (by assumption) w hw | exact Sees.own (by (try simp only [List.append_assoc, List.cons_append, List.nil_append]); repeat (first | exact List.mem_cons_self | exact List.mem_append_left _ (by assumption) | apply List.mem_cons_of_mem | apply List.mem_append_right)) w hw) (by first | exact WRws.root (by assumption) hw | exact WRws.own (by (try simp only [List.append_assoc, List.cons_append, List.nil_append]); repeat (first | exact WRowsIn.here | exact WRowsIn.last | apply WRowsIn.there | apply WRowsIn.thereS)) hw) (by omega) (by assumption)))) ?_
              refine Dr.SW.p rfl (.inl rfl) rfl (by decide) (yq_callf rfl known132_WbM (.cons rfl (.cons rfl .nil)) (fun w hw => c_sub3S)) ?_
              refine Dr.SW.p rfl (.inl rfl) rfl (by decide) (yq_callf rfl known131_WbM (.cons rfl .nil) (fun w hw => c_long3S)) ?_
              refine Dr.SW.r rfl (.inl rfl) rfl (by decide) (yr_assign rfl rfl) ?_
              refine Dr.SW.done ?_
              refine Dr.eqO (by simp only [List.append_nil, List.append_assoc, List.cons_append, List.nil_append] <;> rfl) ?_
              refine VE.then_wp ?_
              refine V.seq ?_
              refine V.region ?_
              refine VL.r (.inl rfl) rfl (by decide) (yr_move rfl rfl) ?_
              refine VL.r (.inl rfl) rfl (by decide) (yr_move rfl rfl) ?_
              refine VL.r (.inl rfl) rfl (by decide) (yr_fcmp rfl (.inr (.inr (.inr (.inr (.inl rfl))))) rfl rfl) ?_
              refine VL.nil ?_
              refine VE.then_wp ?_
              refine V.cond rfl (fun h10 => ?_) (fun h10 => ?_)
              · skip
                refine V.region ?_
                refine VL.r (.inl rfl) rfl (by decide) (yr_move rfl rfl) ?_
                refine VL.r (.inl rfl) rfl (by decide) (yr_assign rfl rfl) ?_
                refine VL.nil ?_
                refine VE.block_normal ?_
                refine VE.then_wp ?_
                refine V.region ?_
                refine VL.r (.inl rfl) rfl (by decide) (yr_move rfl rfl) ?_
                refine VL.r (.inl rfl) rfl (by decide) (yr_int rfl rfl rfl (.inl ⟨rfl, wrap_in (by omega)⟩)) ?_
                refine VL.r (.inl rfl) rfl (by decide) (yr_assign rfl rfl) ?_
                refine VL.nil ?_
                refine VE.round (k + 1) ?_ ?_ ?_ ?_ ?_
                · exact (.cons (congrArg (fun n => some (Value.float .f32 n)) (by first | exact (wbS_no1 (by assumption)).symm | exact (wbS_no2 (by assumption)).symm | exact (wbS_no3 (by assumption)).symm | (rw [wbS_yes (by assumption) (by assumption) (by assumption)]; first | exact (wbN_yesS (by omega) (by omega) (by omega) (by assumption)).symm | exact (wbN_noS (by omega) (by omega) (by omega) (by assumption)).symm))) (.cons rfl .nil))
                · exact (.cons rfl (.cons rfl .nil))
                · exact (fun w hw => by first | exact hw | exact hw.sub (List.sublist_cons_self _ _))
                · exact ⟨by omega, trivial⟩
                · (try dsimp only); omega
              · skip
                refine V.skip ?_
                refine VE.block_normal ?_
                refine VE.then_wp ?_
                refine V.region ?_
                refine VL.r (.inl rfl) rfl (by decide) (yr_move rfl rfl) ?_
                refine VL.r (.inl rfl) rfl (by decide) (yr_int rfl rfl rfl (.inl ⟨rfl, wrap_in (by omega)⟩)) ?_
                refine VL.r (.inl rfl) rfl (by decide) (yr_assign rfl rfl) ?_
                refine VL.nil ?_
                refine VE.round (k + 1) ?_ ?_ ?_ ?_ ?_
                · exact (.cons (congrArg (fun n => some (Value.float .f32 n)) (by first | exact (wbS_no1 (by assumption)).symm | exact (wbS_no2 (by assumption)).symm | exact (wbS_no3 (by assumption)).symm | (rw [wbS_yes (by assumption) (by assumption) (by assumption)]; first | exact (wbN_yesS (by omega) (by omega) (by omega) (by assumption)).symm | exact (wbN_noS (by omega) (by omega) (by omega) (by assumption)).symm))) (.cons rfl .nil))
                · exact (.cons rfl (.cons rfl .nil))
                · exact (fun w hw => by first | exact hw | exact hw.sub (List.sublist_cons_self _ _))
                · exact ⟨by omega, trivial⟩
                · (try dsimp only); omega
      · skip
        replace h4 := ic_lss' h4
        refine V.exit ?_
        refine VE.then_exit ?_
        refine VE.then_exit ?_
        refine VE.block_here ?_
        refine VE.then_wp ?_
        refine V.seq ?_
        refine V.region ?_
        refine VL.r (.inl rfl) rfl (by decide) (yr_move rfl rfl) ?_
        refine VL.q (.inl rfl) rfl (by decide) (yq_callf rfl known134_WbM (.cons rfl .nil) (fun w hw => c_l02Num)) ?_
        refine VL.r (.inl rfl) rfl (by decide) (yr_extract rfl rfl rfl (by nofun)) ?_
        refine VL.r (.inl rfl) rfl (by decide) (yr_extract rfl rfl rfl (by nofun)) ?_
        refine VL.r (.inl rfl) rfl (by decide) (yr_assign rfl rfl) ?_
        refine VL.r (.inl rfl) rfl (by decide) (yr_assign rfl rfl) ?_
        refine VL.nil ?_
        refine VE.then_wp ?_
        refine V.ret ?_
        refine ret2 rfl rfl rfl (by nofun) (by nofun) (fun w1 hw => ?_)
        first
          | (obtain rfl : k = W * H * D := by omega
             have hE : wbL ws vs (f1, f2, f3) st (W : Int) (H : Int) (D : Int) = (wbU ws vs (f1, f2, f3) st W H D (W * H * D)) := rfl
             cases hf : fin (wbU ws vs (f1, f2, f3) st W H D (W * H * D)) with
             | false =>
               have hs : wbOk ws vs (f1, f2, f3) st (W : Int) (H : Int) (D : Int) = false := wb_no3 (by rw [hE]; exact hf)
               exact ⟨by rw [wbD_no hs, hs]; rfl, hw.below⟩
             | true =>
               have hs : wbOk ws vs (f1, f2, f3) st (W : Int) (H : Int) (D : Int) = true := wb_yes (by assumption) hok (by rw [hE]; exact hf)
               exact ⟨by rw [wbD_yes hs, hs, hE]; rfl, hw.below⟩)
          | (have hs : wbOk ws vs (f1, f2, f3) st wi hi de = false := by first | exact wb_no1 (by assumption) | exact wb_no2 (by assumption)); (exact ⟨by rw [wbD_no hs, hs], hw.below⟩)

theorem law_WorstBetween {w : World} {a : Option Addr} {c : Nat} {f : Nat → Option Addr × Nat} {ws : List Wr} {f1 f2 f3 st : Nat} {wi hi de : Int} {d : Option Addr} {e : Nat} {vs : List V3} (hA : Cl w a (whd f ws)) (hR : WRws w f ws) (hX : CansW ws) (hm : ws.length ≤ 9223372036854775807) (hr : ∀ i, i < ws.length → (ws.getD i zw).1.length ≤ 9223372036854775807) (hV : Cl w d (vl vs)) (hXv : Cans3 vs) (hmv : vs.length ≤ 9223372036854775807) (hf : Can3 (f1, f2, f3)) (hst : Can .f32 st) : Pure Try.prog 10 [.slice a ws.length c, .agg #[.float .f32 f1, .float .f32 f2, .float .f32 f3, .float .f32 st, .int .i64 wi, .int .i64 hi, .int .i64 de, .slice d vs.length e]] w (.bool true) := by
  refine Pure.enter Try.func10 rfl Try.ntmps10 (Nat.le_of_ble_eq_true rfl) ?_
  have hbu : wbulk ws = ws.length + wsum ws ws.length := rfl
  have hS1 := can_wbD (ws := ws) (vs := vs) (f := (f1, f2, f3)) (st := st) (wi := wi) (hi := hi) (de := de)
  refine V.seq ?_
  refine V.region ?_
  refine VL.new1 (.inl rfl) rfl (by decide) (yn_box rfl rfl (.inr ⟨rfl, rfl⟩)) ?_
  intro b3
  refine VL.r (.inl rfl) rfl (by decide) (yr_assign (u := .bool false) rfl rfl) ?_
  refine VL.nil ?_
  refine VE.then_wp ?_
  refine V.seq ?_
  refine V.region ?_
  refine VL.r (.inl rfl) rfl (by decide) (yr_assign (u := .int .i64 1048576) rfl rfl) ?_
  refine VL.nil ?_
  refine VE.then_wp ?_
  refine V.seq ?_
  refine V.region ?_
  refine VL.r (.inl rfl) rfl (by decide) (yr_move rfl rfl) ?_
  refine VL.r (.inl rfl) rfl (by decide) (yr_move rfl rfl) ?_
  refine VL.q (.inl rfl) rfl (by decide) (yq_callf rfl known43_WbM (.cons rfl (.cons rfl .nil)) (fun w hw => (c_szWs (by first | exact Sees.root (by assumption) w hw | exact Sees.own (by repeat (first | exact List.mem_cons_self | exact List.mem_append_left _ (by assumption) | apply List.mem_cons_of_mem | apply List.mem_append_right)) w hw) (by omega) (by omega) (by omega) (by assumption)))) ?_
  refine VL.r (.inl rfl) rfl (by decide) (yr_assign rfl rfl) ?_
  refine VL.nil ?_
  refine VE.then_wp ?_
  refine V.seq ?_
  refine V.seq ?_
  refine V.region ?_
  refine VL.r (.inl rfl) rfl (by decide) (yr_move rfl rfl) ?_
  refine VL.r (.inl rfl) rfl (by decide) (yr_icmp rfl (.inr (.inr (.inl rfl))) rfl rfl) ?_
  refine VL.nil ?_
  refine VE.then_wp ?_
  refine V.cond rfl (fun h1 => ?_) (fun h1 => ?_)
  · skip
    replace h1 := ic_lss h1
    refine V.seq ?_
    refine V.region ?_
    refine VL.r (.inl rfl) rfl (by decide) (yr_assign (u := .bool true) rfl rfl) ?_
    refine VL.nil ?_
    refine VE.then_wp ?_
    refine V.ret ?_
    refine VE.then_ret ?_
    refine ret1 rfl rfl (fun w1 hw => ?_)
    exact ⟨rfl, hw.below⟩
  · skip
    replace h1 := ic_lss' h1
    have hs0 := szOf_le (left := 1048576) (by decide) (wbulk ws)
    have hsz0 := szOf_fits h1
    refine V.skip ?_
    refine VE.then_wp ?_
    refine V.seq ?_
    refine V.region ?_
    refine VL.q (.inl rfl) rfl (by decide) (yq_loadS rfl Try.underlying27 sz27_WbM rfl (by first | exact Sees.root (by assumption) | exact Sees.own (by repeat (first | exact List.mem_cons_self | exact List.mem_append_left _ (by assumption) | apply List.mem_cons_of_mem | apply List.mem_append_right)) | exact Sees.root (hR _ (by omega)) | exact Sees.own (RowsIn.mem (by repeat (first | exact RowsIn.here | exact RowsIn.last | apply RowsIn.there | apply RowsIn.thereS)) _ (by omega)) | exact Sees.own (WRowsIn.mem (by repeat (first | exact WRowsIn.here | exact WRowsIn.last | apply WRowsIn.there | apply WRowsIn.thereS)) _ (by omega))) rfl rfl rfl) ?_
    refine VL.r (.inl rfl) rfl (by decide) (yr_move rfl rfl) ?_
    refine VL.q (.inl rfl) rfl (by decide) (yq_callf rfl known14_WbM (.cons rfl (.cons rfl .nil)) (fun w hw => (c_szMesh (by omega) (by omega) (by omega)))) ?_
    refine VL.r (.inl rfl) rfl (by decide) (yr_assign rfl rfl) ?_
    refine VL.nil ?_
    refine VE.then_wp ?_
    refine V.seq ?_
    refine V.seq ?_
    refine V.region ?_
    refine VL.r (.inl rfl) rfl (by decide) (yr_move rfl rfl) ?_
    refine VL.r (.inl rfl) rfl (by decide) (yr_icmp rfl (.inr (.inr (.inl rfl))) rfl rfl) ?_
    refine VL.nil ?_
    refine VE.then_wp ?_
    refine V.cond rfl (fun h2 => ?_) (fun h2 => ?_)
    · skip
      replace h2 := ic_lss h2
      refine V.seq ?_
      refine V.region ?_
      refine VL.r (.inl rfl) rfl (by decide) (yr_assign (u := .bool true) rfl rfl) ?_
      refine VL.nil ?_
      refine VE.then_wp ?_
      refine V.ret ?_
      refine VE.then_ret ?_
      refine ret1 rfl rfl (fun w1 hw => ?_)
      exact ⟨rfl, hw.below⟩
    · skip
      replace h2 := ic_lss' h2
      have hsz := szOf_fits (m := wbulk ws + vs.length) (by rw [← szOf_add (by assumption)]; exact h2)
      refine V.skip ?_
      refine VE.then_wp ?_
      refine V.seq ?_
      refine V.draw [(0, 0), (2, 0), (1, 1), (3, 1), (4, 0), (5, 0), (6, 0), (7, 0), (8, 0), (9, 0)] mixed_WbM (by kernel_rfl) (by intro j o hj; simp at hj) ?_
      refine SW.r rfl (.inl rfl) rfl (by decide) (yr_move rfl rfl) ?_
      refine SW.q rfl (.inl rfl) rfl (by decide) (yq_loadS rfl Try.underlying27 sz27_WbM rfl (by first | exact Sees.root (by assumption) | exact Sees.own (by repeat (first | exact List.mem_cons_self | exact List.mem_append_left _ (by assumption) | apply List.mem_cons_of_mem | apply List.mem_append_right)) | exact Sees.root (hR _ (by omega)) | exact Sees.own (RowsIn.mem (by repeat (first | exact RowsIn.here | exact RowsIn.last | apply RowsIn.there | apply RowsIn.thereS)) _ (by omega)) | exact Sees.own (WRowsIn.mem (by repeat (first | exact WRowsIn.here | exact WRowsIn.last | apply WRowsIn.there | apply WRowsIn.thereS)) _ (by omega))) rfl rfl rfl) ?_
      refine SW.new rfl (.inl rfl) rfl (by decide) (yn_callf rfl known45_WbM (.cons rfl .nil) (fun w hw => (c_toWs (by first | exact Sees.root (by assumption) w hw | exact Sees.own (by repeat (first | exact List.mem_cons_self | exact List.mem_append_left _ (by assumption) | apply List.mem_cons_of_mem | apply List.mem_append_right)) w hw) (by first | exact WRws.root (by assumption) hw | exact WRws.own (by repeat (first | exact WRowsIn.here | exact WRowsIn.last | apply WRowsIn.there | apply WRowsIn.thereS)) hw) (by omega)))) ?_
      rintro ⟨b24, f24⟩
      refine SW.new1 rfl (.inl rfl) rfl (by decide) (yn_callf rfl known16_WbM (.cons rfl .nil) (fun w hw => (c_toMesh (by first | exact Sees.root (by assumption) w hw | exact Sees.own (by repeat (first | exact List.mem_cons_self | exact List.mem_append_left _ (by assumption) | apply List.mem_cons_of_mem | apply List.mem_append_right)) w hw) (by omega)))) ?_
      intro b26
      refine SW.q rfl (.inl rfl) rfl (by decide) (yq_callf rfl known51_WbM (.cons rfl (.cons rfl .nil)) (fun w hw => (c_specWb (by first | exact Sees.root (by assumption) w hw | exact Sees.own (by repeat (first | exact List.mem_cons_self | exact List.mem_append_left _ (by assumption) | apply List.mem_cons_of_mem | apply List.mem_append_right)) w hw) (by first | exact WRws.root (by assumption) hw | exact WRws.own (by repeat (first | exact WRowsIn.here | exact WRowsIn.last | apply WRowsIn.there | apply WRowsIn.thereS)) hw) (by omega) (by first | exact Sees.root (by assumption) w hw | exact Sees.own (by repeat (first | exact List.mem_cons_self | exact List.mem_append_left _ (by assumption) | apply List.mem_cons_of_mem | apply List.mem_append_right)) w hw)))) ?_
      refine SW.r rfl (.inl rfl) rfl (by decide) (yr_move rfl rfl) ?_
      refine SW.r rfl (.inl rfl) rfl (by decide) (yr_extract rfl rfl rfl (by nofun)) ?_
      refine SW.r rfl (.inl rfl) rfl (by decide) (yr_extract rfl rfl rfl (by nofun)) ?_
      refine SW.r rfl (.inl rfl) rfl (by decide) (yr_assign rfl rfl) ?_
      refine SW.r rfl (.inl rfl) rfl (by decide) (yr_assign rfl rfl) ?_
      refine SW.done ?_
      refine VE.then_wp ?_
      refine V.seq ?_
      refine V.region ?_
      refine VL.r (.inl rfl) rfl (by decide) (yr_move rfl rfl) ?_
      refine VL.new (.inl rfl) rfl (by decide) (yn_callf rfl known45_WbM (.cons rfl .nil) (fun w hw => (c_toWs (by first | exact Sees.root (by assumption) w hw | exact Sees.own (by repeat (first | exact List.mem_cons_self | exact List.mem_append_left _ (by assumption) | apply List.mem_cons_of_mem | apply List.mem_append_right)) w hw) (by first | exact WRws.root (by assumption) hw | exact WRws.own (by repeat (first | exact WRowsIn.here | exact WRowsIn.last | apply WRowsIn.there | apply WRowsIn.thereS)) hw) (by omega)))) ?_
      rintro ⟨b31, f31⟩
      refine VL.r (.inl rfl) rfl (by decide) (yr_assign rfl rfl) ?_
      refine VL.nil ?_
      refine VE.then_wp ?_
      refine V.seq ?_
      refine V.region ?_
      refine VL.q (.inl rfl) rfl (by decide) (yq_loadS rfl Try.underlying27 sz27_WbM rfl (by first | exact Sees.root (by assumption) | exact Sees.own (by repeat (first | exact List.mem_cons_self | exact List.mem_append_left _ (by assumption) | apply List.mem_cons_of_mem | apply List.mem_append_right)) | exact Sees.root (hR _ (by omega)) | exact Sees.own (RowsIn.mem (by repeat (first | exact RowsIn.here | exact RowsIn.last | apply RowsIn.there | apply RowsIn.thereS)) _ (by omega)) | exact Sees.own (WRowsIn.mem (by repeat (first | exact WRowsIn.here | exact WRowsIn.last | apply WRowsIn.there | apply WRowsIn.thereS)) _ (by omega))) rfl rfl rfl) ?_
      refine VL.new1 (.inl rfl) rfl (by decide) (yn_callf rfl known16_WbM (.cons rfl .nil) (fun w hw => (c_toMesh (by first | exact Sees.root (by assumption) w hw | exact Sees.own (by repeat (first | exact List.mem_cons_self | exact List.mem_append_left _ (by assumption) | apply List.mem_cons_of_mem | apply List.mem_append_right)) w hw) (by omega)))) ?_
      intro b33
      refine VL.new1 (.inl rfl) rfl (by decide) (yn_alloc rfl zero35_WbM rfl) ?_
      intro b9
      refine VL.s (.inl rfl) rfl (yc_store rfl sz35_WbM rfl rfl (by repeat (first | exact UpdF.here | apply UpdF.there | apply UpdF.thereS)) (.inr ⟨rfl, rfl⟩) rfl (by first | exact Nat.le_of_ble_eq_true rfl | simp) (by decide) rfl) ?_
      rintro ⟨⟩
      refine VL.nil ?_
      refine VE.then_wp ?_
      refine V.seq ?_
      refine V.region ?_
      refine VL.r (.inl rfl) rfl (by decide) (yr_move rfl rfl) ?_
      refine VL.q (.inl rfl) rfl (by decide) (yq_loadS rfl Try.underlying35 sz35_WbM rfl (by first | exact Sees.root (by assumption) | exact Sees.own (by repeat (first | exact List.mem_cons_self | exact List.mem_append_left _ (by assumption) | apply List.mem_cons_of_mem | apply List.mem_append_right)) | exact Sees.root (hR _ (by omega)) | exact Sees.own (RowsIn.mem (by repeat (first | exact RowsIn.here | exact RowsIn.last | apply RowsIn.there | apply RowsIn.thereS)) _ (by omega)) | exact Sees.own (WRowsIn.mem (by repeat (first | exact WRowsIn.here | exact WRowsIn.last | apply WRowsIn.there | apply WRowsIn.thereS)) _ (by omega))) rfl rfl rfl) ?_
      refine VL.q (.inl rfl) rfl (by decide) (yq_callf rfl known52_WbM (.cons rfl (.cons rfl .nil)) (fun w hw => (c_implWb (by first | exact Sees.root (by assumption) w hw | exact Sees.own (by repeat (first | exact List.mem_cons_self | exact List.mem_append_left _ (by assumption) | apply List.mem_cons_of_mem | apply List.mem_append_right)) w hw) (by first | exact WRws.root (by assumption) hw | exact WRws.own (by repeat (first | exact WRowsIn.here | exact WRowsIn.last | apply WRowsIn.there | apply WRowsIn.thereS)) hw) (by omega) (by first | exact Sees.root (by assumption) w hw | exact Sees.own (by repeat (first | exact List.mem_cons_self | exact List.mem_append_left _ (by assumption) | apply List.mem_cons_of_mem | apply List.mem_append_right)) w hw)))) ?_
      refine VL.r (.inl rfl) rfl (by decide) (yr_move rfl rfl) ?_
      refine VL.r (.inl rfl) rfl (by decide) (yr_extract rfl rfl rfl (by nofun)) ?_
      refine VL.r (.inl rfl) rfl (by decide) (yr_extract rfl rfl rfl (by nofun)) ?_
      refine VL.r (.inl rfl) rfl (by decide) (yr_assign rfl rfl) ?_
      refine VL.r (.inl rfl) rfl (by decide) (yr_assign rfl rfl) ?_
      refine VL.nil ?_
      refine VE.then_wp ?_
      refine V.seq ?_
      refine V.seq ?_
      refine V.region ?_
      refine VL.r (.inl rfl) rfl (by decide) (yr_move rfl rfl) ?_
      refine VL.r (.inl rfl) rfl (by decide) (yr_fconv rfl Try.underlying22 Try.underlying87 (by decide) rfl (fover_up _)) ?_
      refine VL.r (.inl rfl) rfl (by decide) (yr_move rfl rfl) ?_
      refine VL.r (.inl rfl) rfl (by decide) (yr_fconv rfl Try.underlying22 Try.underlying87 (by decide) rfl (fover_up _)) ?_
      refine VL.q (.inl rfl) rfl (by decide) (yq_callf rfl known53_WbM (.cons rfl (.cons rfl .nil)) (fun w hw => c_sameFloat _ _ (by first | assumption | exact can_up _ | exact can_fop _ _ _ _ | exact can_of _ (by assumption)) (by first | assumption | exact can_up _ | exact can_fop _ _ _ _ | exact can_of _ (by assumption)))) ?_
      refine VL.r (.inl rfl) rfl (by decide) (yr_not rfl rfl) ?_
      refine VL.r (.inl rfl) rfl (by decide) (yr_move rfl rfl) ?_
      refine VX.split 46 _ rfl (fun h3 => ?_) (fun h3 => ?_)
      · skip
        replace h3 := bnot_t h3
        first | (exfalso; omega) | (simp [bcmp] at h3; done)
      · skip
        replace h3 := bnot_f h3
        refine VL.r (.inr ⟨_, _, _, rfl, rfl, rfl⟩) rfl (by decide) (yr_move rfl rfl) ?_
        refine VL.r (.inr ⟨_, _, _, rfl, rfl, rfl⟩) rfl (by decide) (yr_move rfl rfl) ?_
        refine VL.r (.inr ⟨_, _, _, rfl, rfl, rfl⟩) rfl (by decide) (yr_bcmp rfl Try.underlying4 rfl rfl (.inr rfl)) ?_
        refine VL.r (.inl rfl) rfl (by decide) (yr_pick_f rfl rfl rfl) ?_
        refine VL.nil ?_
        refine VE.then_wp ?_
        refine V.cond rfl (fun h4 => ?_) (fun h4 => ?_)
        · skip
          first | (exfalso; omega) | (simp [bcmp] at h4; done)
        · skip
          refine V.skip ?_
          refine VE.then_wp ?_
          refine V.seq ?_
          refine V.seq ?_
          refine V.region ?_
          refine VL.r (.inl rfl) rfl (by decide) (yr_move rfl rfl) ?_
          refine VL.r (.inl rfl) rfl (by decide) (yr_move rfl rfl) ?_
          refine VL.new (.inl rfl) rfl (by decide) (yn_callf rfl known45_WbM (.cons rfl .nil) (fun w hw => (c_toWs (by first | exact Sees.root (by assumption) w hw | exact Sees.own (by repeat (first | exact List.mem_cons_self | exact List.mem_append_left _ (by assumption) | apply List.mem_cons_of_mem | apply List.mem_append_right)) w hw) (by first | exact WRws.root (by assumption) hw | exact WRws.own (by repeat (first | exact WRowsIn.here | exact WRowsIn.last | apply WRowsIn.there | apply WRowsIn.thereS)) hw) (by omega)))) ?_
          rintro ⟨b53, f53⟩
          refine VL.q (.inl rfl) rfl (by decide) (yq_callf rfl known48_WbM (.cons rfl (.cons rfl .nil)) (fun w hw => (c_eqWs (by first | exact Sees.root (by assumption) w hw | exact Sees.own (by repeat (first | exact List.mem_cons_self | exact List.mem_append_left _ (by assumption) | apply List.mem_cons_of_mem | apply List.mem_append_right)) w hw) (by first | exact WRws.root (by assumption) hw | exact WRws.own (by repeat (first | exact WRowsIn.here | exact WRowsIn.last | apply WRowsIn.there | apply WRowsIn.thereS)) hw) (by first | exact Sees.root (by assumption) w hw | exact Sees.own (by repeat (first | exact List.mem_cons_self | exact List.mem_append_left _ (by assumption) | apply List.mem_cons_of_mem | apply List.mem_append_right)) w hw) (by first | exact WRws.root (by assumption) hw | exact WRws.own (by repeat (first | exact WRowsIn.here | exact WRowsIn.last | apply WRowsIn.there | apply WRowsIn.thereS)) hw) (by assumption) (by assumption) (by omega)))) ?_
          refine VL.r (.inl rfl) rfl (by decide) (yr_not rfl rfl) ?_
          refine VL.nil ?_
          refine VE.then_wp ?_
          refine V.cond rfl (fun h5 => ?_) (fun h5 => ?_)
          · skip
            replace h5 := bnot_t h5
            first | (exfalso; omega) | (simp [bcmp] at h5; done)
          · skip
            replace h5 := bnot_f h5
            refine V.skip ?_
            refine VE.then_wp ?_
            refine V.seq ?_
            refine V.seq ?_
            refine V.draw [(0, 0), (1, 0), (2, 1), (3, 0), (4, 0)] mixed_WbM (by kernel_rfl) (by intro j o hj; simp at hj) ?_
            refine SW.q rfl (.inl rfl) rfl (by decide) (yq_loadS rfl Try.underlying35 sz35_WbM rfl (by first | exact Sees.root (by assumption) | exact Sees.own (by repeat (first | exact List.mem_cons_self | exact List.mem_append_left _ (by assumption) | apply List.mem_cons_of_mem | apply List.mem_append_right)) | exact Sees.root (hR _ (by omega)) | exact Sees.own (RowsIn.mem (by repeat (first | exact RowsIn.here | exact RowsIn.last | apply RowsIn.there | apply RowsIn.thereS)) _ (by omega)) | exact Sees.own (WRowsIn.mem (by repeat (first | exact WRowsIn.here | exact WRowsIn.last | apply WRowsIn.there | apply WRowsIn.thereS)) _ (by omega))) rfl rfl rfl) ?_
            refine SW.q rfl (.inl rfl) rfl (by decide) (yq_loadS rfl Try.underlying27 sz27_WbM rfl (by first | exact Sees.root (by assumption) | exact Sees.own (by repeat (first | exact List.mem_cons_self | exact List.mem_append_left _ (by assumption) | apply List.mem_cons_of_mem | apply List.mem_append_right)) | exact Sees.root (hR _ (by omega)) | exact Sees.own (RowsIn.mem (by repeat (first | exact RowsIn.here | exact RowsIn.last | apply RowsIn.there | apply RowsIn.thereS)) _ (by omega)) | exact Sees.own (WRowsIn.mem (by repeat (first | exact WRowsIn.here | exact WRowsIn.last | apply WRowsIn.there | apply WRowsIn.thereS)) _ (by omega))) rfl rfl rfl) ?_
            refine SW.new1 rfl (.inl rfl) rfl (by decide) (yn_callf rfl known16_WbM (.cons rfl .nil) (fun w hw => (c_toMesh (by first | exact Sees.root (by assumption) w hw | exact Sees.own (by repeat (first | exact List.mem_cons_self | exact List.mem_append_left _ (by assumption) | apply List.mem_cons_of_mem | apply List.mem_append_right)) w hw) (by omega)))) ?_
            intro b58
            refine SW.q rfl (.inl rfl) rfl (by decide) (yq_callf rfl known19_WbM (.cons rfl (.cons rfl .nil)) (fun w hw => (c_eqMesh (by first | exact Sees.root (by assumption) w hw | exact Sees.own (by repeat (first | exact List.mem_cons_self | exact List.mem_append_left _ (by assumption) | apply List.mem_cons_of_mem | apply List.mem_append_right)) w hw) (by first | exact Sees.root (by assumption) w hw | exact Sees.own (by repeat (first | exact List.mem_cons_self | exact List.mem_append_left _ (by assumption) | apply List.mem_cons_of_mem | apply List.mem_append_right)) w hw) (by assumption) (by assumption) (by assumption) (by assumption) (by assumption) (by assumption) (by omega)))) ?_
            refine SW.r rfl (.inl rfl) rfl (by decide) (yr_not rfl rfl) ?_
            refine SW.done ?_
            refine VE.then_wp ?_
            refine V.cond rfl (fun h6 => ?_) (fun h6 => ?_)
            · skip
              replace h6 := bnot_t h6
              first | (exfalso; omega) | (simp [bcmp] at h6; done)
            · skip
              replace h6 := bnot_f h6
              refine V.skip ?_
              refine VE.then_wp ?_
              refine V.seq ?_
              refine V.region ?_
              refine VL.r (.inl rfl) rfl (by decide) (yr_assign (u := .bool true) rfl rfl) ?_
              refine VL.nil ?_
              refine VE.then_wp ?_
              refine V.ret ?_
              refine ret1 rfl rfl (fun w1 hw => ?_)
              exact ⟨rfl, hw.below⟩

end Go.Proofs.Ytacjcomjnabmhaa
