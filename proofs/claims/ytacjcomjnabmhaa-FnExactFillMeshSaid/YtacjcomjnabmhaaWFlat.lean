/- Walks: Flat. Printed by gen.py. -/
import Derived.Test.YtacjcomjnabmhaaWWLaw
import Derived.Test.YtacjcomjnabmhaaWField
import Derived.Test.YtacjcomjnabmhaaWDesign
import Derived.Test.YtacjcomjnabmhaaFlat
import Derived.Test.YtacjcomjnabmhaaBits
import Derived.KernelRfl
namespace Go.Proofs.Ytacjcomjnabmhaa
open Go.RowKit
set_option linter.unusedVariables false
set_option linter.unusedSimpArgs false
set_option maxRecDepth 20000

theorem zero32_Flat : (Try.prog.info? 32).bind (·.zero) = some (Value.agg #[Value.float .f32 0, Value.float .f32 0, Value.float .f32 0]) := by kernel_rfl
theorem sz32_Flat : (Try.prog.info? 32).map (·.size) = some 3 := by kernel_rfl
theorem known132_Flat : Known Try.prog 132 := Known.mk' Try.func132 (by kernel_rfl)
theorem known117_Flat : Known Try.prog 117 := Known.mk' Try.func117 (by kernel_rfl)
theorem lay32_Flat : Lay Try.prog 32 [Value.float .f32 0, Value.float .f32 0, Value.float .f32 0] [(0, 1), (1, 1), (2, 1)] := Lay.mk' (by kernel_rfl) (by kernel_rfl)
theorem mixed_Flat : Try.prog.follows .mixedOrders = true := by kernel_rfl
theorem sz148_Flat : (Try.prog.info? 148).map (·.size) = some 3 := by kernel_rfl
theorem known180_Flat : Known Try.prog 180 := Known.mk' Try.func180 (by kernel_rfl)
theorem known179_Flat : Known Try.prog 179 := Known.mk' Try.func179 (by kernel_rfl)
attribute [local irreducible] fop fcmp fconv sqrt32 fneg segF fieldS fieldI List.getD

theorem c_l02AllF {w : World} {a : Option Addr} {c : Nat} {f : Nat → Option Addr × Nat} {ws : List Wr} {p1 p2 p3 : Nat} (hA : Cl w a (whd f ws)) (hR : WRws w f ws) (hn : wbulk ws ≤ 1050000) (hv : wiresOk ws = true) (hpp : fin3 (p1, p2, p3) = true) : Pure Try.prog 121 [.slice a ws.length c, vv (p1, p2, p3)] w (vv (fieldI ws (p1, p2, p3))) := by
  refine Pure.enter Try.func121 rfl Try.ntmps121 (Nat.le_of_ble_eq_true rfl) ?_
  have hwl : ws.length ≤ wbulk ws := by unfold wbulk; omega
  have hrw : ∀ k, k < ws.length → (ws.getD k zw).1.length ≤ 1050000 := fun k hk => by have := wbulk_row hk; omega
  have hv8 := wires_len hv
  have hvl := fun (k : Nat) (hk : k < ws.length) => wire_len hv hk
  refine V.seq ?_
  refine V.region ?_
  refine VL.new1 (.inl rfl) rfl (by decide) (yn_box rfl rfl (.inr ⟨rfl, rfl⟩)) ?_
  intro b3
  refine VL.new1 (.inl rfl) rfl (by decide) (yn_alloc rfl zero32_Flat rfl) ?_
  intro b4
  refine VL.nil ?_
  refine VE.then_wp ?_
  refine V.seq ?_
  refine V.region ?_
  refine VL.q (.inl rfl) rfl (by decide) (yq_loadS rfl Try.underlying32 sz32_Flat rfl (by first | exact Sees.root (by assumption) | exact Sees.own (by repeat (first | exact List.mem_cons_self | exact List.mem_append_left _ (by assumption) | apply List.mem_cons_of_mem | apply List.mem_append_right)) | exact Sees.root (hR _ (by omega)) | exact Sees.own (RowsIn.mem (by repeat (first | exact RowsIn.here | exact RowsIn.last | apply RowsIn.there | apply RowsIn.thereS)) _ (by omega)) | exact Sees.own (WRowsIn.mem (by repeat (first | exact WRowsIn.here | exact WRowsIn.last | apply WRowsIn.there | apply WRowsIn.thereS)) _ (by omega))) rfl rfl rfl) ?_
  refine VL.q (.inl rfl) rfl (by decide) (yq_loadS rfl Try.underlying32 sz32_Flat rfl (by first | exact Sees.root (by assumption) | exact Sees.own (by repeat (first | exact List.mem_cons_self | exact List.mem_append_left _ (by assumption) | apply List.mem_cons_of_mem | apply List.mem_append_right)) | exact Sees.root (hR _ (by omega)) | exact Sees.own (RowsIn.mem (by repeat (first | exact RowsIn.here | exact RowsIn.last | apply RowsIn.there | apply RowsIn.thereS)) _ (by omega)) | exact Sees.own (WRowsIn.mem (by repeat (first | exact WRowsIn.here | exact WRowsIn.last | apply WRowsIn.there | apply WRowsIn.thereS)) _ (by omega))) rfl rfl rfl) ?_
  refine VL.q (.inl rfl) rfl (by decide) (yq_callf rfl known132_Flat (.cons rfl (.cons rfl .nil)) (fun w hw => c_sub3S)) ?_
  refine VL.new1 (.inl rfl) rfl (by decide) (yn_alloc rfl zero32_Flat rfl) ?_
  intro b5
  refine VL.s (.inl rfl) rfl (yc_store rfl sz32_Flat rfl rfl (by repeat (first | exact UpdF.here | apply UpdF.there | apply UpdF.thereS)) (.inr ⟨rfl, rfl⟩) rfl (by first | exact Nat.le_of_ble_eq_true rfl | simp) (by decide) rfl) ?_
  rintro ⟨⟩
  refine VL.nil ?_
  refine VE.then_wp ?_
  refine V.seq ?_
  refine V.seq ?_
  refine V.region ?_
  refine VL.q (.inl rfl) rfl (by decide) (yq_loadS rfl Try.underlying32 sz32_Flat rfl (by first | exact Sees.root (by assumption) | exact Sees.own (by repeat (first | exact List.mem_cons_self | exact List.mem_append_left _ (by assumption) | apply List.mem_cons_of_mem | apply List.mem_append_right)) | exact Sees.root (hR _ (by omega)) | exact Sees.own (RowsIn.mem (by repeat (first | exact RowsIn.here | exact RowsIn.last | apply RowsIn.there | apply RowsIn.thereS)) _ (by omega)) | exact Sees.own (WRowsIn.mem (by repeat (first | exact WRowsIn.here | exact WRowsIn.last | apply WRowsIn.there | apply WRowsIn.thereS)) _ (by omega))) rfl rfl rfl) ?_
  refine VL.q (.inl rfl) rfl (by decide) (yq_callf rfl known117_Flat (.cons rfl .nil) (fun w hw => c_fin3S)) ?_
  refine VL.nil ?_
  refine VE.then_wp ?_
  refine V.cond rfl (fun h1 => ?_) (fun h1 => ?_)
  · skip
    refine V.region ?_
    refine VL.r (.inl rfl) rfl (by decide) (yr_build rfl lay32_Flat rfl .nil (by first | (simp; done) | (simp [vv]; done) | (simp [cn, cn1, cn0]; done)) rfl) ?_
    refine VL.s (.inl rfl) rfl (yc_store rfl sz32_Flat rfl rfl (by repeat (first | exact UpdF.here | apply UpdF.there | apply UpdF.thereS)) (.inr ⟨rfl, rfl⟩) rfl (by first | exact Nat.le_of_ble_eq_true rfl | simp) (by decide) rfl) ?_
    rintro ⟨⟩
    refine VL.nil ?_
    refine VE.then_wp ?_
    refine V.seq ?_
    refine V.seq ?_
    refine V.region ?_
    refine VL.r (.inl rfl) rfl (by decide) (yr_assign (u := .int .i64 0) rfl rfl) ?_
    refine VL.nil ?_
    refine VE.then_wp ?_
    refine V.block ?_
    refine V.loopc (G := Nat) [(0, _), (3, _), (4, _), (5, _)] (fun (i : Nat) => i ≤ ws.length) (fun (i : Nat) => [⟨some ⟨b5, 0, none⟩, [.float .f32 (sumA ws (p1, p2, p3) z3 i).1, .float .f32 (sumA ws (p1, p2, p3) z3 i).2.1, .float .f32 (sumA ws (p1, p2, p3) z3 i).2.2], 3, 32⟩, ⟨some ⟨b4, 0, none⟩, [.float .f32 (z3).1, .float .f32 (z3).2.1, .float .f32 (z3).2.2], 3, 32⟩, ⟨some ⟨b3, 0, none⟩, [.float .f32 ((p1, p2, p3)).1, .float .f32 ((p1, p2, p3)).2.1, .float .f32 ((p1, p2, p3)).2.2], 3, 32⟩]) (fun (i : Nat) => [(6, .int .i64 (i : Int))]) (fun (i : Nat) => ws.length - i) 0 (.cons rfl (.cons rfl (.cons rfl (.cons rfl .nil)))) (.cons rfl .nil) ?_ ?_ ?_
    · exact (fun w hw => hw)
    · exact (by omega)
    rintro i hi
    show V _ _ _ [⟨some ⟨b5, 0, none⟩, [.float .f32 (sumA ws (p1, p2, p3) z3 i).1, .float .f32 (sumA ws (p1, p2, p3) z3 i).2.1, .float .f32 (sumA ws (p1, p2, p3) z3 i).2.2], 3, 32⟩, ⟨some ⟨b4, 0, none⟩, [.float .f32 (z3).1, .float .f32 (z3).2.1, .float .f32 (z3).2.2], 3, 32⟩, ⟨some ⟨b3, 0, none⟩, [.float .f32 ((p1, p2, p3)).1, .float .f32 ((p1, p2, p3)).2.1, .float .f32 ((p1, p2, p3)).2.2], 3, 32⟩] ([(6, .int .i64 (i : Int))] ++ [(0, _), (3, _), (4, _), (5, _)]) _ _
    refine V.seq ?_
    refine V.seq ?_
    refine V.region ?_
    refine VL.r (.inl rfl) rfl (by decide) (yr_move rfl rfl) ?_
    refine VL.r (.inl rfl) rfl (by decide) (yr_move rfl rfl) ?_
    refine VL.r (.inl rfl) rfl (by decide) (yr_len rfl Try.underlying57 rfl) ?_
    refine VL.r (.inl rfl) rfl (by decide) (yr_icmp rfl (.inr (.inr (.inl rfl))) rfl rfl) ?_
    refine VL.nil ?_
    refine VE.then_wp ?_
    refine V.cond rfl (fun h2 => ?_) (fun h2 => ?_)
    · skip
      replace h2 := ic_lss h2
      refine V.skip ?_
      refine VE.then_wp ?_
      refine V.seq ?_
      refine V.block ?_
      refine V.draw [(0, 0), (1, 0), (2, 0), (3, 0), (4, 0), (5, 0), (6, 0), (7, 3)] mixed_Flat (by kernel_rfl) (by intro j o hj; simp at hj) ?_
      refine SW.q rfl (.inl rfl) rfl (by decide) (yq_loadS rfl Try.underlying32 sz32_Flat rfl (by first | exact Sees.root (by assumption) | exact Sees.own (by repeat (first | exact List.mem_cons_self | exact List.mem_append_left _ (by assumption) | apply List.mem_cons_of_mem | apply List.mem_append_right)) | exact Sees.root (hR _ (by omega)) | exact Sees.own (RowsIn.mem (by repeat (first | exact RowsIn.here | exact RowsIn.last | apply RowsIn.there | apply RowsIn.thereS)) _ (by omega)) | exact Sees.own (WRowsIn.mem (by repeat (first | exact WRowsIn.here | exact WRowsIn.last | apply WRowsIn.there | apply WRowsIn.thereS)) _ (by omega))) rfl rfl rfl) ?_
      refine SW.r rfl (.inl rfl) rfl (by decide) (yr_move rfl rfl) ?_
      refine SW.r rfl (.inl rfl) rfl (by decide) (yr_move rfl rfl) ?_
      refine SW.q rfl (.inl rfl) rfl (by decide) (yq_idxN (k := i) rfl Try.underlying57 sz148_Flat rfl rfl (by first | exact Sees.root (by assumption) | exact Sees.own (by repeat (first | exact List.mem_cons_self | exact List.mem_append_left _ (by assumption) | apply List.mem_cons_of_mem | apply List.mem_append_right)) | exact Sees.root (hR _ (by omega)) | exact Sees.own (RowsIn.mem (by repeat (first | exact RowsIn.here | exact RowsIn.last | apply RowsIn.there | apply RowsIn.thereS)) _ (by omega)) | exact Sees.own (WRowsIn.mem (by repeat (first | exact WRowsIn.here | exact WRowsIn.last | apply WRowsIn.there | apply WRowsIn.thereS)) _ (by omega))) (by first | rfl | omega | (push_cast; rfl) | (push_cast; omega) | exact tmod_nat _ _) (by exact whd_length _ _) (by decide) (by omega)) ?_
      refine SW.q rfl (.inl rfl) rfl (by decide) (yq_loadS rfl Try.underlying32 sz32_Flat rfl (by first | exact Sees.root (by assumption) | exact Sees.own (by repeat (first | exact List.mem_cons_self | exact List.mem_append_left _ (by assumption) | apply List.mem_cons_of_mem | apply List.mem_append_right)) | exact Sees.root (hR _ (by omega)) | exact Sees.own (RowsIn.mem (by repeat (first | exact RowsIn.here | exact RowsIn.last | apply RowsIn.there | apply RowsIn.thereS)) _ (by omega)) | exact Sees.own (WRowsIn.mem (by repeat (first | exact WRowsIn.here | exact WRowsIn.last | apply WRowsIn.there | apply WRowsIn.thereS)) _ (by omega))) rfl rfl rfl) ?_
      refine SW.q rfl (.inl rfl) rfl (by decide) (yq_callf rfl known180_Flat (.cons rfl (.cons rfl .nil)) (fun w hw => (c_l02Field (all := whd f ws) (o := i * 3) (ps := (ws.getD i zw).1) (cl := (ws.getD i zw).2.1) (cur := (ws.getD i zw).2.2) (by first | exact Sees.root (by assumption) w hw | exact Sees.own (by repeat (first | exact List.mem_cons_self | exact List.mem_append_left _ (by assumption) | apply List.mem_cons_of_mem | apply List.mem_append_right)) w hw) (whd_get0 (by omega)) (whd_get1 (by omega)) (whd_get2 (by omega)) (hR.root hw i (by omega)) (hvl i (by omega)).1 (hvl i (by omega)).2))) ?_
      refine SW.q rfl (.inl rfl) rfl (by decide) (yq_callf rfl known179_Flat (.cons rfl (.cons rfl .nil)) (fun w hw => c_add3S)) ?_
      refine SW.s rfl (.inl rfl) rfl (yc_store rfl sz32_Flat rfl rfl (by repeat (first | exact UpdF.here | apply UpdF.there | apply UpdF.thereS)) (.inr ⟨rfl, rfl⟩) rfl (by first | exact Nat.le_of_ble_eq_true rfl | simp) (by decide) rfl) ?_
      rintro ⟨⟩
      refine SW.done ?_
      refine VE.block_normal ?_
      refine VE.then_wp ?_
      refine V.region ?_
      refine VL.r (.inl rfl) rfl (by decide) (yr_move rfl rfl) ?_
      refine VL.r (.inl rfl) rfl (by decide) (yr_int rfl rfl rfl (.inl ⟨rfl, wrap_in (by omega)⟩)) ?_
      refine VL.r (.inl rfl) rfl (by decide) (yr_assign rfl rfl) ?_
      refine VL.nil ?_
      refine VE.round (i + 1) ?_ ?_ ?_ ?_ ?_
      · exact (.cons rfl .nil)
      · exact (.cons rfl (.cons rfl (.cons rfl (.cons rfl .nil))))
      · exact (fun w hw => hw)
      · omega
      · (try dsimp only); omega
    · skip
      replace h2 := ic_lss' h2
      refine V.exit ?_
      refine VE.then_exit ?_
      refine VE.then_exit ?_
      refine VE.block_here ?_
      refine VE.then_wp ?_
      refine V.seq ?_
      refine V.region ?_
      refine VL.q (.inl rfl) rfl (by decide) (yq_loadS rfl Try.underlying32 sz32_Flat rfl (by first | exact Sees.root (by assumption) | exact Sees.own (by repeat (first | exact List.mem_cons_self | exact List.mem_append_left _ (by assumption) | apply List.mem_cons_of_mem | apply List.mem_append_right)) | exact Sees.root (hR _ (by omega)) | exact Sees.own (RowsIn.mem (by repeat (first | exact RowsIn.here | exact RowsIn.last | apply RowsIn.there | apply RowsIn.thereS)) _ (by omega)) | exact Sees.own (WRowsIn.mem (by repeat (first | exact WRowsIn.here | exact WRowsIn.last | apply WRowsIn.there | apply WRowsIn.thereS)) _ (by omega))) rfl rfl rfl) ?_
      refine VL.s (.inl rfl) rfl (yc_store rfl sz32_Flat rfl rfl (by repeat (first | exact UpdF.here | apply UpdF.there | apply UpdF.thereS)) (.inr ⟨rfl, rfl⟩) rfl (by first | exact Nat.le_of_ble_eq_true rfl | simp) (by decide) rfl) ?_
      rintro ⟨⟩
      refine VL.nil ?_
      refine VE.then_wp ?_
      refine V.ret ?_
      refine retC rfl (rv_cellS rfl Try.underlying32 sz32_Flat (by first | exact Sees.root (by assumption) | exact Sees.own (by repeat (first | exact List.mem_cons_self | exact List.mem_append_left _ (by assumption) | apply List.mem_cons_of_mem | apply List.mem_append_right)) | exact Sees.root (hR _ (by omega)) | exact Sees.own (RowsIn.mem (by repeat (first | exact RowsIn.here | exact RowsIn.last | apply RowsIn.there | apply RowsIn.thereS)) _ (by omega)) | exact Sees.own (WRowsIn.mem (by repeat (first | exact WRowsIn.here | exact WRowsIn.last | apply WRowsIn.there | apply WRowsIn.thereS)) _ (by omega))) rfl rfl rfl) (by nofun) (fun w1 hw => ?_)
      rw [← fieldS_fin (ws := ws) hpp]
      obtain rfl : i = ws.length := by omega
      first
        | exact ⟨by rw [fieldS, show fin3 (p1, p2, p3) = true by assumption]; rfl, hw.below⟩
        | exact ⟨by rw [fieldS, show fin3 (p1, p2, p3) = false by assumption]; rfl, hw.below⟩
  · skip
    refine V.skip ?_
    refine VE.then_wp ?_
    refine V.seq ?_
    refine V.seq ?_
    refine V.region ?_
    refine VL.r (.inl rfl) rfl (by decide) (yr_assign (u := .int .i64 0) rfl rfl) ?_
    refine VL.nil ?_
    refine VE.then_wp ?_
    refine V.block ?_
    refine V.loopc (G := Nat) [(0, _), (3, _), (4, _), (5, _)] (fun (i : Nat) => i ≤ ws.length) (fun (i : Nat) => [⟨some ⟨b5, 0, none⟩, [.float .f32 (sumA ws (p1, p2, p3) (sub3 (p1, p2, p3) (p1, p2, p3)) i).1, .float .f32 (sumA ws (p1, p2, p3) (sub3 (p1, p2, p3) (p1, p2, p3)) i).2.1, .float .f32 (sumA ws (p1, p2, p3) (sub3 (p1, p2, p3) (p1, p2, p3)) i).2.2], 3, 32⟩, ⟨some ⟨b4, 0, none⟩, [.float .f32 (z3).1, .float .f32 (z3).2.1, .float .f32 (z3).2.2], 3, 32⟩, ⟨some ⟨b3, 0, none⟩, [.float .f32 ((p1, p2, p3)).1, .float .f32 ((p1, p2, p3)).2.1, .float .f32 ((p1, p2, p3)).2.2], 3, 32⟩]) (fun (i : Nat) => [(6, .int .i64 (i : Int))]) (fun (i : Nat) => ws.length - i) 0 (.cons rfl (.cons rfl (.cons rfl (.cons rfl .nil)))) (.cons rfl .nil) ?_ ?_ ?_
    · exact (fun w hw => hw)
    · exact (by omega)
    rintro i hi
    show V _ _ _ [⟨some ⟨b5, 0, none⟩, [.float .f32 (sumA ws (p1, p2, p3) (sub3 (p1, p2, p3) (p1, p2, p3)) i).1, .float .f32 (sumA ws (p1, p2, p3) (sub3 (p1, p2, p3) (p1, p2, p3)) i).2.1, .float .f32 (sumA ws (p1, p2, p3) (sub3 (p1, p2, p3) (p1, p2, p3)) i).2.2], 3, 32⟩, ⟨some ⟨b4, 0, none⟩, [.float .f32 (z3).1, .float .f32 (z3).2.1, .float .f32 (z3).2.2], 3, 32⟩, ⟨some ⟨b3, 0, none⟩, [.float .f32 ((p1, p2, p3)).1, .float .f32 ((p1, p2, p3)).2.1, .float .f32 ((p1, p2, p3)).2.2], 3, 32⟩] ([(6, .int .i64 (i : Int))] ++ [(0, _), (3, _), (4, _), (5, _)]) _ _
    refine V.seq ?_
    refine V.seq ?_
    refine V.region ?_
    refine VL.r (.inl rfl) rfl (by decide) (yr_move rfl rfl) ?_
    refine VL.r (.inl rfl) rfl (by decide) (yr_move rfl rfl) ?_
    refine VL.r (.inl rfl) rfl (by decide) (yr_len rfl Try.underlying57 rfl) ?_
    refine VL.r (.inl rfl) rfl (by decide) (yr_icmp rfl (.inr (.inr (.inl rfl))) rfl rfl) ?_
    refine VL.nil ?_
    refine VE.then_wp ?_
    refine V.cond rfl (fun h3 => ?_) (fun h3 => ?_)
    · skip
      replace h3 := ic_lss h3
      refine V.skip ?_
      refine VE.then_wp ?_
      refine V.seq ?_
      refine V.block ?_
      refine V.draw [(0, 0), (1, 0), (2, 0), (3, 0), (4, 0), (5, 0), (6, 0), (7, 3)] mixed_Flat (by kernel_rfl) (by intro j o hj; simp at hj) ?_
      refine SW.q rfl (.inl rfl) rfl (by decide) (yq_loadS rfl Try.underlying32 sz32_Flat rfl (by first | exact Sees.root (by assumption) | exact Sees.own (by repeat (first | exact List.mem_cons_self | exact List.mem_append_left _ (by assumption) | apply List.mem_cons_of_mem | apply List.mem_append_right)) | exact Sees.root (hR _ (by omega)) | exact Sees.own (RowsIn.mem (by repeat (first | exact RowsIn.here | exact RowsIn.last | apply RowsIn.there | apply RowsIn.thereS)) _ (by omega)) | exact Sees.own (WRowsIn.mem (by repeat (first | exact WRowsIn.here | exact WRowsIn.last | apply WRowsIn.there | apply WRowsIn.thereS)) _ (by omega))) rfl rfl rfl) ?_
      refine SW.r rfl (.inl rfl) rfl (by decide) (yr_move rfl rfl) ?_
      refine SW.r rfl (.inl rfl) rfl (by decide) (yr_move rfl rfl) ?_
      refine SW.q rfl (.inl rfl) rfl (by decide) (yq_idxN (k := i) rfl Try.underlying57 sz148_Flat rfl rfl (by first | exact Sees.root (by assumption) | exact Sees.own (by repeat (first | exact List.mem_cons_self | exact List.mem_append_left _ (by assumption) | apply List.mem_cons_of_mem | apply List.mem_append_right)) | exact Sees.root (hR _ (by omega)) | exact Sees.own (RowsIn.mem (by repeat (first | exact RowsIn.here | exact RowsIn.last | apply RowsIn.there | apply RowsIn.thereS)) _ (by omega)) | exact Sees.own (WRowsIn.mem (by repeat (first | exact WRowsIn.here | exact WRowsIn.last | apply WRowsIn.there | apply WRowsIn.thereS)) _ (by omega))) (by first | rfl | omega | (push_cast; rfl) | (push_cast; omega) | exact tmod_nat _ _) (by exact whd_length _ _) (by decide) (by omega)) ?_
      refine SW.q rfl (.inl rfl) rfl (by decide) (yq_loadS rfl Try.underlying32 sz32_Flat rfl (by first | exact Sees.root (by assumption) | exact Sees.own (by repeat (first | exact List.mem_cons_self | exact List.mem_append_left _ (by assumption) | apply List.mem_cons_of_mem | apply List.mem_append_right)) | exact Sees.root (hR _ (by omega)) | exact Sees.own (RowsIn.mem (by repeat (first | exact RowsIn.here | exact RowsIn.last | apply RowsIn.there | apply RowsIn.thereS)) _ (by omega)) | exact Sees.own (WRowsIn.mem (by repeat (first | exact WRowsIn.here | exact WRowsIn.last | apply WRowsIn.there | apply WRowsIn.thereS)) _ (by omega))) rfl rfl rfl) ?_
      refine SW.q rfl (.inl rfl) rfl (by decide) (yq_callf rfl known180_Flat (.cons rfl (.cons rfl .nil)) (fun w hw => (c_l02Field (all := whd f ws) (o := i * 3) (ps := (ws.getD i zw).1) (cl := (ws.getD i zw).2.1) (cur := (ws.getD i zw).2.2) (by first | exact Sees.root (by assumption) w hw | exact Sees.own (by repeat (first | exact List.mem_cons_self | exact List.mem_append_left _ (by assumption) | apply List.mem_cons_of_mem | apply List.mem_append_right)) w hw) (whd_get0 (by omega)) (whd_get1 (by omega)) (whd_get2 (by omega)) (hR.root hw i (by omega)) (hvl i (by omega)).1 (hvl i (by omega)).2))) ?_
      refine SW.q rfl (.inl rfl) rfl (by decide) (yq_callf rfl known179_Flat (.cons rfl (.cons rfl .nil)) (fun w hw => c_add3S)) ?_
      refine SW.s rfl (.inl rfl) rfl (yc_store rfl sz32_Flat rfl rfl (by repeat (first | exact UpdF.here | apply UpdF.there | apply UpdF.thereS)) (.inr ⟨rfl, rfl⟩) rfl (by first | exact Nat.le_of_ble_eq_true rfl | simp) (by decide) rfl) ?_
      rintro ⟨⟩
      refine SW.done ?_
      refine VE.block_normal ?_
      refine VE.then_wp ?_
      refine V.region ?_
      refine VL.r (.inl rfl) rfl (by decide) (yr_move rfl rfl) ?_
      refine VL.r (.inl rfl) rfl (by decide) (yr_int rfl rfl rfl (.inl ⟨rfl, wrap_in (by omega)⟩)) ?_
      refine VL.r (.inl rfl) rfl (by decide) (yr_assign rfl rfl) ?_
      refine VL.nil ?_
      refine VE.round (i + 1) ?_ ?_ ?_ ?_ ?_
      · exact (.cons rfl .nil)
      · exact (.cons rfl (.cons rfl (.cons rfl (.cons rfl .nil))))
      · exact (fun w hw => hw)
      · omega
      · (try dsimp only); omega
    · skip
      replace h3 := ic_lss' h3
      refine V.exit ?_
      refine VE.then_exit ?_
      refine VE.then_exit ?_
      refine VE.block_here ?_
      refine VE.then_wp ?_
      refine V.seq ?_
      refine V.region ?_
      refine VL.q (.inl rfl) rfl (by decide) (yq_loadS rfl Try.underlying32 sz32_Flat rfl (by first | exact Sees.root (by assumption) | exact Sees.own (by repeat (first | exact List.mem_cons_self | exact List.mem_append_left _ (by assumption) | apply List.mem_cons_of_mem | apply List.mem_append_right)) | exact Sees.root (hR _ (by omega)) | exact Sees.own (RowsIn.mem (by repeat (first | exact RowsIn.here | exact RowsIn.last | apply RowsIn.there | apply RowsIn.thereS)) _ (by omega)) | exact Sees.own (WRowsIn.mem (by repeat (first | exact WRowsIn.here | exact WRowsIn.last | apply WRowsIn.there | apply WRowsIn.thereS)) _ (by omega))) rfl rfl rfl) ?_
      refine VL.s (.inl rfl) rfl (yc_store rfl sz32_Flat rfl rfl (by repeat (first | exact UpdF.here | apply UpdF.there | apply UpdF.thereS)) (.inr ⟨rfl, rfl⟩) rfl (by first | exact Nat.le_of_ble_eq_true rfl | simp) (by decide) rfl) ?_
      rintro ⟨⟩
      refine VL.nil ?_
      refine VE.then_wp ?_
      refine V.ret ?_
      refine retC rfl (rv_cellS rfl Try.underlying32 sz32_Flat (by first | exact Sees.root (by assumption) | exact Sees.own (by repeat (first | exact List.mem_cons_self | exact List.mem_append_left _ (by assumption) | apply List.mem_cons_of_mem | apply List.mem_append_right)) | exact Sees.root (hR _ (by omega)) | exact Sees.own (RowsIn.mem (by repeat (first | exact RowsIn.here | exact RowsIn.last | apply RowsIn.there | apply RowsIn.thereS)) _ (by omega)) | exact Sees.own (WRowsIn.mem (by repeat (first | exact WRowsIn.here | exact WRowsIn.last | apply WRowsIn.there | apply WRowsIn.thereS)) _ (by omega))) rfl rfl rfl) (by nofun) (fun w1 hw => ?_)
      rw [← fieldS_fin (ws := ws) hpp]
      obtain rfl : i = ws.length := by omega
      first
        | exact ⟨by rw [fieldS, show fin3 (p1, p2, p3) = true by assumption]; rfl, hw.below⟩
        | exact ⟨by rw [fieldS, show fin3 (p1, p2, p3) = false by assumption]; rfl, hw.below⟩

end Go.Proofs.Ytacjcomjnabmhaa
