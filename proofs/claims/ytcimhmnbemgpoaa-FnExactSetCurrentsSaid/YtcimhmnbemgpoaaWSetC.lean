/- Walks: SetC. Printed by gen.py. -/
import Derived.Test.YtcimhmnbemgpoaaWFlat
import Derived.Test.YtcimhmnbemgpoaaWMarkK
import Derived.Test.YtcimhmnbemgpoaaSetC
import Derived.Test.YtcimhmnbemgpoaaBits
import Derived.Test.YtcimhmnbemgpoaaOwn
import Derived.KernelRfl
namespace Go.Proofs.Ytcimhmnbemgpoaa
open Go.RowKit
set_option linter.unusedVariables false
set_option linter.unusedSimpArgs false
set_option maxRecDepth 20000

theorem elt46_SetC : Elt Try.prog 46 [Value.float .f32 0, Value.float .f32 0, Value.float .f32 0] 12 := Elt.mk' (by kernel_rfl) (by decide)
theorem zero127_SetC : (Try.prog.info? 127).bind (·.zero) = some (Value.agg #[Value.slice none 0 0, Value.bool false, Value.float .f32 0]) := by kernel_rfl
theorem sz127_SetC : (Try.prog.info? 127).map (·.size) = some 3 := by kernel_rfl
theorem known138_SetC : Known Try.prog 138 := Known.mk' Try.func138 (by kernel_rfl)
theorem lay127_SetC : Lay Try.prog 127 [Value.slice none 0 0, Value.bool false, Value.float .f32 0] [(0, 1), (1, 1), (2, 1)] := Lay.mk' (by kernel_rfl) (by kernel_rfl)
theorem mixed_SetC : Try.prog.follows .mixedOrders = true := by kernel_rfl
theorem sz47_SetC : (Try.prog.info? 47).map (·.size) = some 1 := by kernel_rfl
theorem fb47_SetC : flatB Try.prog 47 = true := by kernel_rfl
theorem sz4_SetC : (Try.prog.info? 4).map (·.size) = some 1 := by kernel_rfl
theorem fb4_SetC : flatB Try.prog 4 = true := by kernel_rfl
theorem known140_SetC : Known Try.prog 140 := Known.mk' Try.func140 (by kernel_rfl)
theorem known139_SetC : Known Try.prog 139 := Known.mk' Try.func139 (by kernel_rfl)
theorem known103_SetC : Known Try.prog 103 := Known.mk' Try.func103 (by kernel_rfl)
theorem elt127_SetC : Elt Try.prog 127 [Value.slice none 0 0, Value.bool false, Value.float .f32 0] 32 := Elt.mk' (by kernel_rfl) (by decide)
theorem sz27_SetC : (Try.prog.info? 27).map (·.size) = some 1 := by kernel_rfl
theorem fb27_SetC : flatB Try.prog 27 = true := by kernel_rfl
theorem known104_SetC : Known Try.prog 104 := Known.mk' Try.func104 (by kernel_rfl)
theorem known106_SetC : Known Try.prog 106 := Known.mk' Try.func106 (by kernel_rfl)
theorem known107_SetC : Known Try.prog 107 := Known.mk' Try.func107 (by kernel_rfl)
attribute [local irreducible] fop fcmp fconv sqrt32 fneg segF List.getD

theorem c_cloneV {w : World} {a : Option Addr} {c : Nat} {vs : List V3} (hA : Cl w a (vl vs)) (hn : vs.length ≤ 1050000) : New Try.prog 140 [.slice a vs.length c] w (fun p : Option Addr × Nat => .slice p.1 vs.length p.2) (fun p => [⟨p.1, vl vs, p.2 * 3, 46⟩]) := by
  refine New.enter Try.func140 rfl Try.ntmps140 (Nat.le_of_ble_eq_true rfl) ?_
  refine V.seq ?_
  refine V.region ?_
  refine VL.r (.inl rfl) rfl (by decide) (yr_assign (u := .slice none 0 0) rfl rfl) ?_
  refine VL.nil ?_
  refine VE.then_wp ?_
  refine V.seq ?_
  refine V.seq ?_
  refine V.region ?_
  refine VL.r (.inl rfl) rfl (by decide) (yr_move rfl rfl) ?_
  refine VL.r (.inl rfl) rfl (by decide) (yr_nileq rfl Try.underlying47 rfl rfl) ?_
  refine VL.nil ?_
  refine VE.then_wp ?_
  refine V.cond rfl (fun h1 => ?_) (fun h1 => ?_)
  · skip
    refine V.seq ?_
    refine V.region ?_
    refine VL.r (.inl rfl) rfl (by decide) (yr_assign (u := .slice none 0 0) rfl rfl) ?_
    refine VL.nil ?_
    refine VE.then_wp ?_
    refine V.ret ?_
    refine VE.then_ret ?_
    refine ret1 rfl rfl (fun w1 hw => ?_)
    have hx : vs = [] := by
      rcases hA with h | ⟨p, h, _⟩
      · cases vs with
        | nil => rfl
        | cons v vs => cases h
      · rw [h] at h1; cases h1
    subst hx
    exact ⟨(none, 0), rfl, hw.below, by simp [vl, Ent.at], List.pairwise_singleton _ _⟩
  · skip
    refine V.skip ?_
    refine VE.then_wp ?_
    refine V.seq ?_
    refine V.region ?_
    refine VL.new1 (.inl rfl) rfl (by decide) (yn_buildSlice rfl Try.underlying47 elt46_SetC rfl (by decide) .nil (by simp) rfl rfl) ?_
    intro b5
    refine VL.r (.inl rfl) rfl (by decide) (yr_move rfl rfl) ?_
    refine VL.c (.inl rfl) rfl (by decide) (yc_append0 3 rfl rfl Try.underlying47 elt46_SetC rfl rfl (by repeat (first | exact UpdF.here | apply UpdF.there | apply UpdF.thereS)) (by first | exact Sees.root (by assumption) | exact Sees.own (by repeat (first | exact List.mem_cons_self | exact List.mem_append_left _ (by assumption) | apply List.mem_cons_of_mem | apply List.mem_append_right)) | exact Sees.root (hR _ (by omega)) | exact Sees.own (RowsIn.mem (by repeat (first | exact RowsIn.here | exact RowsIn.last | apply RowsIn.there | apply RowsIn.thereS)) _ (by omega)) | exact Sees.own (WRowsIn.mem (by repeat (first | exact WRowsIn.here | exact WRowsIn.last | apply WRowsIn.there | apply WRowsIn.thereS)) _ (by omega))) rfl (by rw [vl_length]) (vl_scal _) (by omega) (by omega)) ?_
    rintro ⟨a7, c7⟩
    refine VL.r (.inl rfl) rfl (by decide) (yr_assign rfl rfl) ?_
    refine VL.nil ?_
    refine VE.then_wp ?_
    refine V.ret ?_
    refine ret1 rfl rfl (fun w1 hw => ?_)
    exact ⟨(a7, c7), rfl, hw.out1⟩

theorem c_ifWire {w : World} {a : Option Addr} {c : Nat} {ps : List V3} {cl : Bool} {cur : Nat} (hA : Cl w a (vl ps)) (hn : ps.length ≤ 1050000) (hok : wireOk (ps, cl, cur) = true) : Pure Try.prog 139 [.agg #[.slice a ps.length c, .bool cl, .float .f32 cur]] w (.tuple #[.agg #[.slice a ps.length c, .bool cl, .float .f32 cur], .bool true]) := by
  refine Pure.enter Try.func139 rfl Try.ntmps139 (Nat.le_of_ble_eq_true rfl) ?_
  refine V.seq ?_
  refine V.region ?_
  refine VL.new1 (.inl rfl) rfl (by decide) (yn_box rfl rfl (.inr ⟨rfl, rfl⟩)) ?_
  intro b1
  refine VL.new1 (.inl rfl) rfl (by decide) (yn_alloc rfl zero127_SetC rfl) ?_
  intro b2
  refine VL.r (.inl rfl) rfl (by decide) (yr_assign (u := .bool false) rfl rfl) ?_
  refine VL.nil ?_
  refine VE.then_wp ?_
  refine V.seq ?_
  refine V.seq ?_
  refine V.region ?_
  refine VL.q (.inl rfl) rfl (by decide) (yq_loadS rfl Try.underlying127 sz127_SetC rfl (by first | exact Sees.root (by assumption) | exact Sees.own (by repeat (first | exact List.mem_cons_self | exact List.mem_append_left _ (by assumption) | apply List.mem_cons_of_mem | apply List.mem_append_right)) | exact Sees.root (hR _ (by omega)) | exact Sees.own (RowsIn.mem (by repeat (first | exact RowsIn.here | exact RowsIn.last | apply RowsIn.there | apply RowsIn.thereS)) _ (by omega)) | exact Sees.own (WRowsIn.mem (by repeat (first | exact WRowsIn.here | exact WRowsIn.last | apply WRowsIn.there | apply WRowsIn.thereS)) _ (by omega))) rfl rfl rfl) ?_
  refine VL.q (.inl rfl) rfl (by decide) (yq_callf rfl known138_SetC (.cons rfl .nil) (fun w hw => (c_implWire (by first | exact Sees.root (by assumption) w hw | exact Sees.own (by repeat (first | exact List.mem_cons_self | exact List.mem_append_left _ (by assumption) | apply List.mem_cons_of_mem | apply List.mem_append_right)) w hw) (by omega)))) ?_
  refine VL.r (.inl rfl) rfl (by decide) (yr_not rfl rfl) ?_
  refine VL.nil ?_
  refine VE.then_wp ?_
  refine V.cond rfl (fun h1 => ?_) (fun h1 => ?_)
  · skip
    replace h1 := bnot_t h1
    (rw [hok] at h1; cases h1)
  · skip
    replace h1 := bnot_f h1
    refine V.skip ?_
    refine VE.then_wp ?_
    refine V.seq ?_
    refine V.region ?_
    refine VL.q (.inl rfl) rfl (by decide) (yq_loadS rfl Try.underlying127 sz127_SetC rfl (by first | exact Sees.root (by assumption) | exact Sees.own (by repeat (first | exact List.mem_cons_self | exact List.mem_append_left _ (by assumption) | apply List.mem_cons_of_mem | apply List.mem_append_right)) | exact Sees.root (hR _ (by omega)) | exact Sees.own (RowsIn.mem (by repeat (first | exact RowsIn.here | exact RowsIn.last | apply RowsIn.there | apply RowsIn.thereS)) _ (by omega)) | exact Sees.own (WRowsIn.mem (by repeat (first | exact WRowsIn.here | exact WRowsIn.last | apply WRowsIn.there | apply WRowsIn.thereS)) _ (by omega))) rfl rfl rfl) ?_
    refine VL.s (.inl rfl) rfl (yc_store rfl sz127_SetC rfl rfl (by repeat (first | exact UpdF.here | apply UpdF.there | apply UpdF.thereS)) (.inr ⟨rfl, rfl⟩) rfl (by first | exact Nat.le_of_ble_eq_true rfl | simp) (by decide) rfl) ?_
    rintro ⟨⟩
    refine VL.r (.inl rfl) rfl (by decide) (yr_assign (u := .bool true) rfl rfl) ?_
    refine VL.nil ?_
    refine VE.then_wp ?_
    refine V.ret ?_
    refine retN rfl (.cons (rv_cellS rfl Try.underlying127 sz127_SetC (by first | exact Sees.root (by assumption) | exact Sees.own (by repeat (first | exact List.mem_cons_self | exact List.mem_append_left _ (by assumption) | apply List.mem_cons_of_mem | apply List.mem_append_right)) | exact Sees.root (hR _ (by omega)) | exact Sees.own (RowsIn.mem (by repeat (first | exact RowsIn.here | exact RowsIn.last | apply RowsIn.there | apply RowsIn.thereS)) _ (by omega)) | exact Sees.own (WRowsIn.mem (by repeat (first | exact WRowsIn.here | exact WRowsIn.last | apply WRowsIn.there | apply WRowsIn.thereS)) _ (by omega))) rfl rfl rfl) (.cons (rv_tmp rfl (by nofun)) .nil)) (by nofun) (fun w1 hw => ?_)
    exact ⟨rfl, hw.below⟩

theorem c_ifWireN {w : World} {a : Option Addr} {c : Nat} {ps : List V3} {cl : Bool} {cur : Nat} (hA : Cl w a (vl ps)) (hn : ps.length ≤ 1050000) (hok : wireOk (ps, cl, cur) = false) : Pure Try.prog 139 [.agg #[.slice a ps.length c, .bool cl, .float .f32 cur]] w (.tuple #[.agg #[.slice none 0 0, .bool false, .float .f32 0], .bool false]) := by
  refine Pure.enter Try.func139 rfl Try.ntmps139 (Nat.le_of_ble_eq_true rfl) ?_
  refine V.seq ?_
  refine V.region ?_
  refine VL.new1 (.inl rfl) rfl (by decide) (yn_box rfl rfl (.inr ⟨rfl, rfl⟩)) ?_
  intro b1
  refine VL.new1 (.inl rfl) rfl (by decide) (yn_alloc rfl zero127_SetC rfl) ?_
  intro b2
  refine VL.r (.inl rfl) rfl (by decide) (yr_assign (u := .bool false) rfl rfl) ?_
  refine VL.nil ?_
  refine VE.then_wp ?_
  refine V.seq ?_
  refine V.seq ?_
  refine V.region ?_
  refine VL.q (.inl rfl) rfl (by decide) (yq_loadS rfl Try.underlying127 sz127_SetC rfl (by first | exact Sees.root (by assumption) | exact Sees.own (by repeat (first | exact List.mem_cons_self | exact List.mem_append_left _ (by assumption) | apply List.mem_cons_of_mem | apply List.mem_append_right)) | exact Sees.root (hR _ (by omega)) | exact Sees.own (RowsIn.mem (by repeat (first | exact RowsIn.here | exact RowsIn.last | apply RowsIn.there | apply RowsIn.thereS)) _ (by omega)) | exact Sees.own (WRowsIn.mem (by repeat (first | exact WRowsIn.here | exact WRowsIn.last | apply WRowsIn.there | apply WRowsIn.thereS)) _ (by omega))) rfl rfl rfl) ?_
  refine VL.q (.inl rfl) rfl (by decide) (yq_callf rfl known138_SetC (.cons rfl .nil) (fun w hw => (c_implWire (by first | exact Sees.root (by assumption) w hw | exact Sees.own (by repeat (first | exact List.mem_cons_self | exact List.mem_append_left _ (by assumption) | apply List.mem_cons_of_mem | apply List.mem_append_right)) w hw) (by omega)))) ?_
  refine VL.r (.inl rfl) rfl (by decide) (yr_not rfl rfl) ?_
  refine VL.nil ?_
  refine VE.then_wp ?_
  refine V.cond rfl (fun h1 => ?_) (fun h1 => ?_)
  · skip
    replace h1 := bnot_t h1
    refine V.seq ?_
    refine V.region ?_
    refine VL.r (.inl rfl) rfl (by decide) (yr_build rfl lay127_SetC rfl .nil (by first | (simp; done) | (simp [vv]; done) | (simp [cn, cn1, cn0]; done)) rfl) ?_
    refine VL.s (.inl rfl) rfl (yc_store rfl sz127_SetC rfl rfl (by repeat (first | exact UpdF.here | apply UpdF.there | apply UpdF.thereS)) (.inr ⟨rfl, rfl⟩) rfl (by first | exact Nat.le_of_ble_eq_true rfl | simp) (by decide) rfl) ?_
    rintro ⟨⟩
    refine VL.r (.inl rfl) rfl (by decide) (yr_assign (u := .bool false) rfl rfl) ?_
    refine VL.nil ?_
    refine VE.then_wp ?_
    refine V.ret ?_
    refine VE.then_ret ?_
    refine retN rfl (.cons (rv_cellS rfl Try.underlying127 sz127_SetC (by first | exact Sees.root (by assumption) | exact Sees.own (by repeat (first | exact List.mem_cons_self | exact List.mem_append_left _ (by assumption) | apply List.mem_cons_of_mem | apply List.mem_append_right)) | exact Sees.root (hR _ (by omega)) | exact Sees.own (RowsIn.mem (by repeat (first | exact RowsIn.here | exact RowsIn.last | apply RowsIn.there | apply RowsIn.thereS)) _ (by omega)) | exact Sees.own (WRowsIn.mem (by repeat (first | exact WRowsIn.here | exact WRowsIn.last | apply WRowsIn.there | apply WRowsIn.thereS)) _ (by omega))) rfl rfl rfl) (.cons (rv_tmp rfl (by nofun)) .nil)) (by nofun) (fun w1 hw => ?_)
    exact ⟨rfl, hw.below⟩
  · skip
    replace h1 := bnot_f h1
    (rw [hok] at h1; cases h1)

theorem c_feedY {w : World} {a : Option Addr} {c : Nat} {ps : List V3} {cl : Bool} {cur : Nat} {v : Nat} (hA : Cl w a (vl ps)) (hn : ps.length ≤ 1050000) (hok : wireOk (ps, cl, cur) = true) (hx : fin v = true) : New Try.prog 107 [.agg #[.slice a ps.length c, .bool cl, .float .f32 cur], .float .f32 v] w (fun p : Option Addr × Nat => .tuple #[.agg #[.slice p.1 ps.length p.2, .bool cl, .float .f32 v], .bool true]) (fun p => [⟨p.1, vl ps, p.2 * 3, 46⟩]) := by
  refine New.enter Try.func107 rfl Try.ntmps107 (Nat.le_of_ble_eq_true rfl) ?_
  refine V.seq ?_
  refine V.region ?_
  refine VL.new1 (.inl rfl) rfl (by decide) (yn_box rfl rfl (.inr ⟨rfl, rfl⟩)) ?_
  intro b2
  refine VL.new1 (.inl rfl) rfl (by decide) (yn_alloc rfl zero127_SetC rfl) ?_
  intro b4
  refine VL.r (.inl rfl) rfl (by decide) (yr_assign (u := .bool false) rfl rfl) ?_
  refine VL.nil ?_
  refine VE.then_wp ?_
  refine V.seq ?_
  refine V.seq ?_
  refine V.region ?_
  refine VL.q (.inl rfl) rfl (by decide) (yq_loadS rfl Try.underlying127 sz127_SetC rfl (by first | exact Sees.root (by assumption) | exact Sees.own (by repeat (first | exact List.mem_cons_self | exact List.mem_append_left _ (by assumption) | apply List.mem_cons_of_mem | apply List.mem_append_right)) | exact Sees.root (hR _ (by omega)) | exact Sees.own (RowsIn.mem (by repeat (first | exact RowsIn.here | exact RowsIn.last | apply RowsIn.there | apply RowsIn.thereS)) _ (by omega)) | exact Sees.own (WRowsIn.mem (by repeat (first | exact WRowsIn.here | exact WRowsIn.last | apply WRowsIn.there | apply WRowsIn.thereS)) _ (by omega))) rfl rfl rfl) ?_
  refine VL.q (.inl rfl) rfl (by decide) (yq_callf rfl known138_SetC (.cons rfl .nil) (fun w hw => (c_implWire (by first | exact Sees.root (by assumption) w hw | exact Sees.own (by repeat (first | exact List.mem_cons_self | exact List.mem_append_left _ (by assumption) | apply List.mem_cons_of_mem | apply List.mem_append_right)) w hw) (by omega)))) ?_
  refine VL.r (.inl rfl) rfl (by decide) (yr_not rfl rfl) ?_
  refine VL.nil ?_
  refine VE.then_wp ?_
  refine V.cond rfl (fun h1 => ?_) (fun h1 => ?_)
  · skip
    replace h1 := bnot_t h1
    (rw [hok] at h1; cases h1)
  · skip
    replace h1 := bnot_f h1
    refine V.skip ?_
    refine VE.then_wp ?_
    refine V.seq ?_
    refine V.draw [(0, 0), (1, 0), (3, 0), (4, 0), (5, 0), (2, 1), (6, 0), (7, 0), (8, 0), (9, 0), (10, 3), (11, 0)] mixed_SetC (by kernel_rfl) (by intro j o hj; simp at hj) ?_
    refine SW.r rfl (.inl rfl) rfl (by decide) (yr_fieldAddr rfl Try.underlying127 rfl rfl sz47_SetC (by decide) rfl) ?_
    refine SW.q rfl (.inl rfl) rfl (by decide) (yq_load rfl fb47_SetC rfl (by first | exact Sees.root (by assumption) | exact Sees.own (by repeat (first | exact List.mem_cons_self | exact List.mem_append_left _ (by assumption) | apply List.mem_cons_of_mem | apply List.mem_append_right)) | exact Sees.root (hR _ (by omega)) | exact Sees.own (RowsIn.mem (by repeat (first | exact RowsIn.here | exact RowsIn.last | apply RowsIn.there | apply RowsIn.thereS)) _ (by omega)) | exact Sees.own (WRowsIn.mem (by repeat (first | exact WRowsIn.here | exact WRowsIn.last | apply WRowsIn.there | apply WRowsIn.thereS)) _ (by omega))) rfl) ?_
    refine SW.r rfl (.inl rfl) rfl (by decide) (yr_fieldAddr rfl Try.underlying127 rfl rfl sz4_SetC (by decide) rfl) ?_
    refine SW.q rfl (.inl rfl) rfl (by decide) (yq_load rfl fb4_SetC rfl (by first | exact Sees.root (by assumption) | exact Sees.own (by repeat (first | exact List.mem_cons_self | exact List.mem_append_left _ (by assumption) | apply List.mem_cons_of_mem | apply List.mem_append_right)) | exact Sees.root (hR _ (by omega)) | exact Sees.own (RowsIn.mem (by repeat (first | exact RowsIn.here | exact RowsIn.last | apply RowsIn.there | apply RowsIn.thereS)) _ (by omega)) | exact Sees.own (WRowsIn.mem (by repeat (first | exact WRowsIn.here | exact WRowsIn.last | apply WRowsIn.there | apply WRowsIn.thereS)) _ (by omega))) rfl) ?_
    refine SW.r rfl (.inl rfl) rfl (by decide) (yr_move rfl rfl) ?_
    refine SW.new1 rfl (.inl rfl) rfl (by decide) (yn_callf rfl known140_SetC (.cons rfl .nil) (fun w hw => (c_cloneV (by first | exact Sees.root (by assumption) w hw | exact Sees.own (by repeat (first | exact List.mem_cons_self | exact List.mem_append_left _ (by assumption) | apply List.mem_cons_of_mem | apply List.mem_append_right)) w hw) (by omega)))) ?_
    rintro ⟨a12, c12⟩
    refine SW.r rfl (.inl rfl) rfl (by decide) (yr_build rfl lay127_SetC rfl (.cons rfl (.cons rfl (.cons rfl .nil))) (by first | (simp; done) | (simp [vv]; done) | (simp [cn, cn1, cn0]; done)) rfl) ?_
    refine SW.q rfl (.inl rfl) rfl (by decide) (yq_callf rfl known139_SetC (.cons rfl .nil) (fun w hw => (c_ifWire (ps := ps) (by first | exact Sees.root (by assumption) w hw | exact Sees.own (by repeat (first | exact List.mem_cons_self | exact List.mem_append_left _ (by assumption) | apply List.mem_cons_of_mem | apply List.mem_append_right)) w hw) (by omega) (by rw [(wire_cur (w := (ps, cl, cur)) (c := v) hok)]; exact hx)))) ?_
    refine SW.r rfl (.inl rfl) rfl (by decide) (yr_extract rfl rfl rfl (by nofun)) ?_
    refine SW.r rfl (.inl rfl) rfl (by decide) (yr_extract rfl rfl rfl (by nofun)) ?_
    refine SW.s rfl (.inl rfl) rfl (yc_store rfl sz127_SetC rfl rfl (by repeat (first | exact UpdF.here | apply UpdF.there | apply UpdF.thereS)) (.inr ⟨rfl, rfl⟩) rfl (by first | exact Nat.le_of_ble_eq_true rfl | simp) (by decide) rfl) ?_
    rintro ⟨⟩
    refine SW.r rfl (.inl rfl) rfl (by decide) (yr_assign rfl rfl) ?_
    refine SW.done ?_
    refine VE.then_wp ?_
    refine V.ret ?_
    refine retN rfl (.cons (rv_cellS rfl Try.underlying127 sz127_SetC (by first | exact Sees.root (by assumption) | exact Sees.own (by repeat (first | exact List.mem_cons_self | exact List.mem_append_left _ (by assumption) | apply List.mem_cons_of_mem | apply List.mem_append_right)) | exact Sees.root (hR _ (by omega)) | exact Sees.own (RowsIn.mem (by repeat (first | exact RowsIn.here | exact RowsIn.last | apply RowsIn.there | apply RowsIn.thereS)) _ (by omega)) | exact Sees.own (WRowsIn.mem (by repeat (first | exact WRowsIn.here | exact WRowsIn.last | apply WRowsIn.there | apply WRowsIn.thereS)) _ (by omega))) rfl rfl rfl) (.cons (rv_tmp rfl (by nofun)) .nil)) (by nofun) (fun w1 hw => ?_)
    exact ⟨(a12, c12), rfl, hw.out1⟩

theorem c_feedN {w : World} {a : Option Addr} {c : Nat} {ps : List V3} {cl : Bool} {cur : Nat} {v : Nat} (hA : Cl w a (vl ps)) (hn : ps.length ≤ 1050000) (hok : wireOk (ps, cl, cur) = true) (hx : fin v = false) : New Try.prog 107 [.agg #[.slice a ps.length c, .bool cl, .float .f32 cur], .float .f32 v] w (fun p : Option Addr × Nat => .tuple #[.agg #[.slice none 0 0, .bool false, .float .f32 0], .bool false]) (fun p => [⟨p.1, vl ps, p.2 * 3, 46⟩]) := by
  refine New.enter Try.func107 rfl Try.ntmps107 (Nat.le_of_ble_eq_true rfl) ?_
  refine V.seq ?_
  refine V.region ?_
  refine VL.new1 (.inl rfl) rfl (by decide) (yn_box rfl rfl (.inr ⟨rfl, rfl⟩)) ?_
  intro b2
  refine VL.new1 (.inl rfl) rfl (by decide) (yn_alloc rfl zero127_SetC rfl) ?_
  intro b4
  refine VL.r (.inl rfl) rfl (by decide) (yr_assign (u := .bool false) rfl rfl) ?_
  refine VL.nil ?_
  refine VE.then_wp ?_
  refine V.seq ?_
  refine V.seq ?_
  refine V.region ?_
  refine VL.q (.inl rfl) rfl (by decide) (yq_loadS rfl Try.underlying127 sz127_SetC rfl (by first | exact Sees.root (by assumption) | exact Sees.own (by repeat (first | exact List.mem_cons_self | exact List.mem_append_left _ (by assumption) | apply List.mem_cons_of_mem | apply List.mem_append_right)) | exact Sees.root (hR _ (by omega)) | exact Sees.own (RowsIn.mem (by repeat (first | exact RowsIn.here | exact RowsIn.last | apply RowsIn.there | apply RowsIn.thereS)) _ (by omega)) | exact Sees.own (WRowsIn.mem (by repeat (first | exact WRowsIn.here | exact WRowsIn.last | apply WRowsIn.there | apply WRowsIn.thereS)) _ (by omega))) rfl rfl rfl) ?_
  refine VL.q (.inl rfl) rfl (by decide) (yq_callf rfl known138_SetC (.cons rfl .nil) (fun w hw => (c_implWire (by first | exact Sees.root (by assumption) w hw | exact Sees.own (by repeat (first | exact List.mem_cons_self | exact List.mem_append_left _ (by assumption) | apply List.mem_cons_of_mem | apply List.mem_append_right)) w hw) (by omega)))) ?_
  refine VL.r (.inl rfl) rfl (by decide) (yr_not rfl rfl) ?_
  refine VL.nil ?_
  refine VE.then_wp ?_
  refine V.cond rfl (fun h1 => ?_) (fun h1 => ?_)
  · skip
    replace h1 := bnot_t h1
    (rw [hok] at h1; cases h1)
  · skip
    replace h1 := bnot_f h1
    refine V.skip ?_
    refine VE.then_wp ?_
    refine V.seq ?_
    refine V.draw [(0, 0), (1, 0), (3, 0), (4, 0), (5, 0), (2, 1), (6, 0), (7, 0), (8, 0), (9, 0), (10, 3), (11, 0)] mixed_SetC (by kernel_rfl) (by intro j o hj; simp at hj) ?_
    refine SW.r rfl (.inl rfl) rfl (by decide) (yr_fieldAddr rfl Try.underlying127 rfl rfl sz47_SetC (by decide) rfl) ?_
    refine SW.q rfl (.inl rfl) rfl (by decide) (yq_load rfl fb47_SetC rfl (by first | exact Sees.root (by assumption) | exact Sees.own (by repeat (first | exact List.mem_cons_self | exact List.mem_append_left _ (by assumption) | apply List.mem_cons_of_mem | apply List.mem_append_right)) | exact Sees.root (hR _ (by omega)) | exact Sees.own (RowsIn.mem (by repeat (first | exact RowsIn.here | exact RowsIn.last | apply RowsIn.there | apply RowsIn.thereS)) _ (by omega)) | exact Sees.own (WRowsIn.mem (by repeat (first | exact WRowsIn.here | exact WRowsIn.last | apply WRowsIn.there | apply WRowsIn.thereS)) _ (by omega))) rfl) ?_
    refine SW.r rfl (.inl rfl) rfl (by decide) (yr_fieldAddr rfl Try.underlying127 rfl rfl sz4_SetC (by decide) rfl) ?_
    refine SW.q rfl (.inl rfl) rfl (by decide) (yq_load rfl fb4_SetC rfl (by first | exact Sees.root (by assumption) | exact Sees.own (by repeat (first | exact List.mem_cons_self | exact List.mem_append_left _ (by assumption) | apply List.mem_cons_of_mem | apply List.mem_append_right)) | exact Sees.root (hR _ (by omega)) | exact Sees.own (RowsIn.mem (by repeat (first | exact RowsIn.here | exact RowsIn.last | apply RowsIn.there | apply RowsIn.thereS)) _ (by omega)) | exact Sees.own (WRowsIn.mem (by repeat (first | exact WRowsIn.here | exact WRowsIn.last | apply WRowsIn.there | apply WRowsIn.thereS)) _ (by omega))) rfl) ?_
    refine SW.r rfl (.inl rfl) rfl (by decide) (yr_move rfl rfl) ?_
    refine SW.new1 rfl (.inl rfl) rfl (by decide) (yn_callf rfl known140_SetC (.cons rfl .nil) (fun w hw => (c_cloneV (by first | exact Sees.root (by assumption) w hw | exact Sees.own (by repeat (first | exact List.mem_cons_self | exact List.mem_append_left _ (by assumption) | apply List.mem_cons_of_mem | apply List.mem_append_right)) w hw) (by omega)))) ?_
    rintro ⟨a12, c12⟩
    refine SW.r rfl (.inl rfl) rfl (by decide) (yr_build rfl lay127_SetC rfl (.cons rfl (.cons rfl (.cons rfl .nil))) (by first | (simp; done) | (simp [vv]; done) | (simp [cn, cn1, cn0]; done)) rfl) ?_
    refine SW.q rfl (.inl rfl) rfl (by decide) (yq_callf rfl known139_SetC (.cons rfl .nil) (fun w hw => (c_ifWireN (ps := ps) (cl := cl) (cur := v) (by first | exact Sees.root (by assumption) w hw | exact Sees.own (by repeat (first | exact List.mem_cons_self | exact List.mem_append_left _ (by assumption) | apply List.mem_cons_of_mem | apply List.mem_append_right)) w hw) (by omega) (by rw [(wire_cur (w := (ps, cl, cur)) (c := v) hok)]; exact hx)))) ?_
    refine SW.r rfl (.inl rfl) rfl (by decide) (yr_extract rfl rfl rfl (by nofun)) ?_
    refine SW.r rfl (.inl rfl) rfl (by decide) (yr_extract rfl rfl rfl (by nofun)) ?_
    refine SW.s rfl (.inl rfl) rfl (yc_store rfl sz127_SetC rfl rfl (by repeat (first | exact UpdF.here | apply UpdF.there | apply UpdF.thereS)) (.inr ⟨rfl, rfl⟩) rfl (by first | exact Nat.le_of_ble_eq_true rfl | simp) (by decide) rfl) ?_
    rintro ⟨⟩
    refine SW.r rfl (.inl rfl) rfl (by decide) (yr_assign rfl rfl) ?_
    refine SW.done ?_
    refine VE.then_wp ?_
    refine V.ret ?_
    refine retN rfl (.cons (rv_cellS rfl Try.underlying127 sz127_SetC (by first | exact Sees.root (by assumption) | exact Sees.own (by repeat (first | exact List.mem_cons_self | exact List.mem_append_left _ (by assumption) | apply List.mem_cons_of_mem | apply List.mem_append_right)) | exact Sees.root (hR _ (by omega)) | exact Sees.own (RowsIn.mem (by repeat (first | exact RowsIn.here | exact RowsIn.last | apply RowsIn.there | apply RowsIn.thereS)) _ (by omega)) | exact Sees.own (WRowsIn.mem (by repeat (first | exact WRowsIn.here | exact WRowsIn.last | apply WRowsIn.there | apply WRowsIn.thereS)) _ (by omega))) rfl rfl rfl) (.cons (rv_tmp rfl (by nofun)) .nil)) (by nofun) (fun w1 hw => ?_)
    exact ⟨(a12, c12), rfl, hw.out1⟩

theorem c_specSC {w : World} {a : Option Addr} {c : Nat} {f : Nat → Option Addr × Nat} {ws : List Wr} {b : Option Addr} {d : Nat} {x : List Nat} (hA : Cl w a (whd f ws)) (hR : WRws w f ws) (hn : wbulk ws ≤ 1050000) (hB : Cl w b (fl x)) (hxn : x.length ≤ 1050000) : New Try.prog 46 [.slice a ws.length c, .slice b x.length d] w (fun (p : (Option Addr × Nat) × (Nat → Option Addr × Nat)) => .tuple #[.slice p.1.1 (scV ws x).length p.1.2, .bool (scOk ws x)]) (fun p => ⟨p.1.1, whd p.2 (scV ws x), p.1.2 * 3, 127⟩ :: wrents 46 p.2 (scV ws x)) := by
  refine New.enter Try.func46 rfl Try.ntmps46 (Nat.le_of_ble_eq_true rfl) ?_
  have hwl : ws.length ≤ wbulk ws := by unfold wbulk; omega
  have hrw : ∀ k, k < ws.length → (ws.getD k zw).1.length ≤ 1050000 := fun k hk => by have := wbulk_row hk; omega
  refine V.seq ?_
  refine V.region ?_
  refine VL.r (.inl rfl) rfl (by decide) (yr_assign (u := .slice none 0 0) rfl rfl) ?_
  refine VL.r (.inl rfl) rfl (by decide) (yr_assign (u := .bool false) rfl rfl) ?_
  refine VL.nil ?_
  refine VE.then_wp ?_
  refine V.seq ?_
  refine V.seq ?_
  refine V.region ?_
  refine VL.r (.inl rfl) rfl (by decide) (yr_move rfl rfl) ?_
  refine VL.q (.inl rfl) rfl (by decide) (yq_callf rfl known103_SetC (.cons rfl .nil) (fun w hw => (c_l07Wires (by first | exact Sees.root (by assumption) w hw | exact Sees.own (by repeat (first | exact List.mem_cons_self | exact List.mem_append_left _ (by assumption) | apply List.mem_cons_of_mem | apply List.mem_append_right)) w hw) (by first | exact WRws.root (by assumption) hw | exact WRws.own (by repeat (first | exact WRowsIn.here | exact WRowsIn.last | apply WRowsIn.there | apply WRowsIn.thereS)) hw) (by omega)))) ?_
  refine VL.r (.inl rfl) rfl (by decide) (yr_not rfl rfl) ?_
  refine VL.r (.inl rfl) rfl (by decide) (yr_move rfl rfl) ?_
  refine VX.split 12 _ rfl (fun h1 => ?_) (fun h1 => ?_)
  · skip
    replace h1 := bnot_t h1
    refine VL.no rfl rfl rfl rfl rfl (by decide) ?_
    refine VL.no rfl rfl rfl rfl rfl (by decide) ?_
    refine VL.no rfl rfl rfl rfl rfl (by decide) ?_
    refine VL.no rfl rfl rfl rfl rfl (by decide) ?_
    refine VL.no rfl rfl rfl rfl rfl (by decide) ?_
    refine VL.r (.inl rfl) rfl (by decide) (yr_pick_t (u := .bool true) rfl rfl rfl) ?_
    refine VL.nil ?_
    refine VE.then_wp ?_
    refine V.condT rfl ?_
    refine V.seq ?_
    refine V.region ?_
    refine VL.r (.inl rfl) rfl (by decide) (yr_assign (u := .slice none 0 0) rfl rfl) ?_
    refine VL.r (.inl rfl) rfl (by decide) (yr_assign (u := .bool false) rfl rfl) ?_
    refine VL.nil ?_
    refine VE.then_wp ?_
    refine V.ret ?_
    refine VE.then_ret ?_
    refine ret2 rfl rfl rfl (by nofun) (by nofun) (fun w1 hw => ?_)
    first
      | (have hkn : k = ws.length := by omega
         subst hkn
         have hs := sc_yes (ws := ws) (x := x) (by assumption) (by omega) hI
         rw [setW_take] at hw
         exact ⟨((ar, cr), g), by rw [scV_yes hs, hs, setW_length], by rw [scV_yes hs]; exact hw.outs (List.Sublist.refl _)⟩)
      | (have hs : scOk ws x = false := by first | exact sc_no1 (by assumption) | exact sc_no2 (by omega) | exact sc_no3 (k := k) (by omega) (by first | assumption | (rw [← wire_cur (hrok (by omega))]; assumption))
         exact ⟨((none, 0), fun _ => (none, 0)), by rw [scV_no hs, hs]; rfl, hw.below, by rw [scV_no hs]; simp [whd, whdF, wrents, Ent.at], by rw [scV_no hs]; simp [wrents, Ent.apart]⟩)
  · skip
    replace h1 := bnot_f h1
    refine VL.r (.inr ⟨_, _, _, rfl, rfl, rfl⟩) rfl (by decide) (yr_move rfl rfl) ?_
    refine VL.r (.inr ⟨_, _, _, rfl, rfl, rfl⟩) rfl (by decide) (yr_len rfl Try.underlying23 rfl) ?_
    refine VL.r (.inr ⟨_, _, _, rfl, rfl, rfl⟩) rfl (by decide) (yr_move rfl rfl) ?_
    refine VL.r (.inr ⟨_, _, _, rfl, rfl, rfl⟩) rfl (by decide) (yr_len rfl Try.underlying71 rfl) ?_
    refine VL.r (.inr ⟨_, _, _, rfl, rfl, rfl⟩) rfl (by decide) (yr_icmp rfl (.inr (.inl rfl)) rfl rfl) ?_
    refine VL.r (.inl rfl) rfl (by decide) (yr_pick_f rfl rfl rfl) ?_
    refine VL.nil ?_
    refine VE.then_wp ?_
    refine V.cond rfl (fun h3 => ?_) (fun h3 => ?_)
    · skip
      replace h3 := ic_neq h3
      refine V.seq ?_
      refine V.region ?_
      refine VL.r (.inl rfl) rfl (by decide) (yr_assign (u := .slice none 0 0) rfl rfl) ?_
      refine VL.r (.inl rfl) rfl (by decide) (yr_assign (u := .bool false) rfl rfl) ?_
      refine VL.nil ?_
      refine VE.then_wp ?_
      refine V.ret ?_
      refine VE.then_ret ?_
      refine ret2 rfl rfl rfl (by nofun) (by nofun) (fun w1 hw => ?_)
      first
        | (have hkn : k = ws.length := by omega
           subst hkn
           have hs := sc_yes (ws := ws) (x := x) (by assumption) (by omega) hI
           rw [setW_take] at hw
           exact ⟨((ar, cr), g), by rw [scV_yes hs, hs, setW_length], by rw [scV_yes hs]; exact hw.outs (List.Sublist.refl _)⟩)
        | (have hs : scOk ws x = false := by first | exact sc_no1 (by assumption) | exact sc_no2 (by omega) | exact sc_no3 (k := k) (by omega) (by first | assumption | (rw [← wire_cur (hrok (by omega))]; assumption))
           exact ⟨((none, 0), fun _ => (none, 0)), by rw [scV_no hs, hs]; rfl, hw.below, by rw [scV_no hs]; simp [whd, whdF, wrents, Ent.at], by rw [scV_no hs]; simp [wrents, Ent.apart]⟩)
    · skip
      replace h3 := ic_neq' h3
      have hdw9 := dwOk_is (ws := ws) (by assumption)
      have hrow := fun (k : Nat) (hk : k < ws.length) => dw_row (ws := ws) (k := k) (by assumption) hk
      refine V.skip ?_
      refine VE.then_wp ?_
      refine V.seq ?_
      refine V.region ?_
      refine VL.new1 (.inl rfl) rfl (by decide) (yn_buildSlice rfl Try.underlying71 elt127_SetC rfl (by decide) .nil (by simp) rfl rfl) ?_
      intro b19
      refine VL.r (.inl rfl) rfl (by decide) (yr_assign rfl rfl) ?_
      refine VL.nil ?_
      refine VE.then_wp ?_
      refine V.seq ?_
      refine V.seq ?_
      refine V.region ?_
      refine VL.r (.inl rfl) rfl (by decide) (yr_move rfl rfl) ?_
      refine VL.r (.inl rfl) rfl (by decide) (yr_len rfl Try.underlying71 rfl) ?_
      refine VL.r (.inl rfl) rfl (by decide) (yr_move (u := .int .i64 0) rfl rfl) ?_
      refine VL.nil ?_
      refine VE.then_wp ?_
      refine V.block ?_
      refine V.loopc (G := Nat × (Nat → Option Addr × Nat) × (Option Addr) × Nat) [(0, _), (1, _), (21, _)] (fun ⟨k, g, ar, cr⟩ => k ≤ ws.length ∧ ∀ j, j < k → fin (x.getD j 0) = true) (fun ⟨k, g, ar, cr⟩ => (⟨ar, whd g ((setW ws x).take k), cr * 3, 127⟩ :: wrents 46 g ((setW ws x).take k))) (fun ⟨k, g, ar, cr⟩ => [(6, .slice ar k cr), (22, .int .i64 (k : Int))]) (fun ⟨k, g, ar, cr⟩ => ws.length - k) (0, fun _ => (none, 0), some ⟨b19, 0, none⟩, 0) (.cons rfl (.cons rfl (.cons rfl .nil))) (.cons rfl (.cons rfl .nil)) ?_ ?_ ?_
      · exact (fun w hw => hw)
      · exact (by exact ⟨by omega, fun j h => by omega⟩)
      rintro ⟨k, g, ar, cr⟩ ⟨hk, hI⟩
      show V _ _ _ (⟨ar, whd g ((setW ws x).take k), cr * 3, 127⟩ :: wrents 46 g ((setW ws x).take k)) ([(6, .slice ar k cr), (22, .int .i64 (k : Int))] ++ [(0, _), (1, _), (21, _)]) _ _
      have hrk := fun h => hrw k h
      have hrok := fun h => hrow k h
      refine V.seq ?_
      refine V.region ?_
      refine VL.r (.inl rfl) rfl (by decide) (yr_icmp rfl (.inr (.inr (.inl rfl))) rfl rfl) ?_
      refine VL.nil ?_
      refine VE.then_wp ?_
      refine V.seq ?_
      refine V.cond rfl (fun h4 => ?_) (fun h4 => ?_)
      · skip
        replace h4 := ic_lss h4
        refine V.skip ?_
        refine VE.then_wp ?_
        refine V.seq ?_
        refine V.block ?_
        refine V.seq ?_
        refine V.region ?_
        refine VL.r (.inl rfl) rfl (by decide) (yr_move rfl rfl) ?_
        refine VL.r (.inl rfl) rfl (by decide) (yr_assign rfl rfl) ?_
        refine VL.nil ?_
        refine VE.then_wp ?_
        refine V.seq ?_
        refine V.region ?_
        refine VL.r (.inl rfl) rfl (by decide) (yr_move rfl rfl) ?_
        refine VL.r (.inl rfl) rfl (by decide) (yr_move rfl rfl) ?_
        refine VL.q (.inl rfl) rfl (by decide) (yq_idxN (k := k) rfl Try.underlying71 sz127_SetC rfl rfl (by first | exact Sees.root (by assumption) | exact Sees.own (by repeat (first | exact List.mem_cons_self | exact List.mem_append_left _ (by assumption) | apply List.mem_cons_of_mem | apply List.mem_append_right)) | exact Sees.root (hR _ (by omega)) | exact Sees.own (RowsIn.mem (by repeat (first | exact RowsIn.here | exact RowsIn.last | apply RowsIn.there | apply RowsIn.thereS)) _ (by omega)) | exact Sees.own (WRowsIn.mem (by repeat (first | exact WRowsIn.here | exact WRowsIn.last | apply WRowsIn.there | apply WRowsIn.thereS)) _ (by omega))) (by first | rfl | omega | (push_cast; rfl) | (push_cast; omega) | exact tmod_nat _ _) (by exact whd_length _ _) (by decide) (by omega)) ?_
        refine VL.q (.inl rfl) rfl (by decide) (yq_loadW rfl Try.underlying127 sz127_SetC rfl (by first | exact Sees.root (by assumption) | exact Sees.own (by repeat (first | exact List.mem_cons_self | exact List.mem_append_left _ (by assumption) | apply List.mem_cons_of_mem | apply List.mem_append_right)) | exact Sees.root (hR _ (by omega)) | exact Sees.own (RowsIn.mem (by repeat (first | exact RowsIn.here | exact RowsIn.last | apply RowsIn.there | apply RowsIn.thereS)) _ (by omega)) | exact Sees.own (WRowsIn.mem (by repeat (first | exact WRowsIn.here | exact WRowsIn.last | apply WRowsIn.there | apply WRowsIn.thereS)) _ (by omega))) (by omega)) ?_
        refine VL.new1 (.inl rfl) rfl (by decide) (yn_alloc rfl zero127_SetC rfl) ?_
        intro b8
        refine VL.s (.inl rfl) rfl (yc_store rfl sz127_SetC rfl rfl (by repeat (first | exact UpdF.here | apply UpdF.there | apply UpdF.thereS)) (.inr ⟨rfl, rfl⟩) rfl (by first | exact Nat.le_of_ble_eq_true rfl | simp) (by decide) rfl) ?_
        rintro ⟨⟩
        refine VL.nil ?_
        refine VE.then_wp ?_
        refine V.seq ?_
        refine V.region ?_
        refine VL.new1 (.inl rfl) rfl (by decide) (yn_buildSlice rfl Try.underlying47 elt46_SetC rfl (by decide) .nil (by simp) rfl rfl) ?_
        intro b29
        refine VL.r (.inl rfl) rfl (by decide) (yr_fieldAddr rfl Try.underlying127 rfl rfl sz47_SetC (by decide) rfl) ?_
        refine VL.q (.inl rfl) rfl (by decide) (yq_load rfl fb47_SetC rfl (by first | exact Sees.root (by assumption) | exact Sees.own (by repeat (first | exact List.mem_cons_self | exact List.mem_append_left _ (by assumption) | apply List.mem_cons_of_mem | apply List.mem_append_right)) | exact Sees.root (hR _ (by omega)) | exact Sees.own (RowsIn.mem (by repeat (first | exact RowsIn.here | exact RowsIn.last | apply RowsIn.there | apply RowsIn.thereS)) _ (by omega)) | exact Sees.own (WRowsIn.mem (by repeat (first | exact WRowsIn.here | exact WRowsIn.last | apply WRowsIn.there | apply WRowsIn.thereS)) _ (by omega))) (by first | rfl | assumption)) ?_
        refine VL.c (.inl rfl) rfl (by decide) (yc_append0 3 rfl rfl Try.underlying47 elt46_SetC rfl rfl (by repeat (first | exact UpdF.here | apply UpdF.there | apply UpdF.thereS)) (by first | exact Sees.root (by assumption) | exact Sees.own (by repeat (first | exact List.mem_cons_self | exact List.mem_append_left _ (by assumption) | apply List.mem_cons_of_mem | apply List.mem_append_right)) | exact Sees.root (hR _ (by omega)) | exact Sees.own (RowsIn.mem (by repeat (first | exact RowsIn.here | exact RowsIn.last | apply RowsIn.there | apply RowsIn.thereS)) _ (by omega)) | exact Sees.own (WRowsIn.mem (by repeat (first | exact WRowsIn.here | exact WRowsIn.last | apply WRowsIn.there | apply WRowsIn.thereS)) _ (by omega))) rfl (by first | rfl | (rw [vl_length]; done) | (rw [vl_length]; omega)) (by first | rfl | exact vl_scal _) (by omega) (by omega)) ?_
        rintro ⟨a32, c32⟩
        refine VL.r (.inl rfl) rfl (by decide) (yr_fieldAddr rfl Try.underlying127 rfl rfl sz47_SetC (by decide) rfl) ?_
        refine VL.s (.inl rfl) rfl (yc_store rfl sz47_SetC rfl rfl (by repeat (first | exact UpdF.here | apply UpdF.there | apply UpdF.thereS)) (.inl ⟨rfl, rfl⟩) rfl (by first | exact Nat.le_of_ble_eq_true rfl | simp) (by decide) rfl) ?_
        rintro ⟨⟩
        refine VL.nil ?_
        refine VE.then_wp ?_
        refine V.seq ?_
        refine V.region ?_
        refine VL.r (.inl rfl) rfl (by decide) (yr_move rfl rfl) ?_
        refine VL.r (.inl rfl) rfl (by decide) (yr_move rfl rfl) ?_
        refine VL.q (.inl rfl) rfl (by decide) (yq_idx (k := k) rfl Try.underlying23 sz27_SetC rfl rfl (by first | exact Sees.root (by assumption) | exact Sees.own (by repeat (first | exact List.mem_cons_self | exact List.mem_append_left _ (by assumption) | apply List.mem_cons_of_mem | apply List.mem_append_right)) | exact Sees.root (hR _ (by omega)) | exact Sees.own (RowsIn.mem (by repeat (first | exact RowsIn.here | exact RowsIn.last | apply RowsIn.there | apply RowsIn.thereS)) _ (by omega)) | exact Sees.own (WRowsIn.mem (by repeat (first | exact WRowsIn.here | exact WRowsIn.last | apply WRowsIn.there | apply WRowsIn.thereS)) _ (by omega))) (by first | rfl | omega | (push_cast; rfl) | (push_cast; omega) | exact tmod_nat _ _) (by exact fl_length _) (by omega)) ?_
        refine VL.q (.inl rfl) rfl (by decide) (yq_loadF rfl fb27_SetC rfl (by first | exact Sees.root (by assumption) | exact Sees.own (by repeat (first | exact List.mem_cons_self | exact List.mem_append_left _ (by assumption) | apply List.mem_cons_of_mem | apply List.mem_append_right)) | exact Sees.root (hR _ (by omega)) | exact Sees.own (RowsIn.mem (by repeat (first | exact RowsIn.here | exact RowsIn.last | apply RowsIn.there | apply RowsIn.thereS)) _ (by omega)) | exact Sees.own (WRowsIn.mem (by repeat (first | exact WRowsIn.here | exact WRowsIn.last | apply WRowsIn.there | apply WRowsIn.thereS)) _ (by omega))) (by omega)) ?_
        refine VL.r (.inl rfl) rfl (by decide) (yr_fieldAddr rfl Try.underlying127 rfl rfl sz27_SetC (by decide) rfl) ?_
        refine VL.s (.inl rfl) rfl (yc_store rfl sz27_SetC rfl rfl (by repeat (first | exact UpdF.here | apply UpdF.there | apply UpdF.thereS)) (.inl ⟨rfl, rfl⟩) rfl (by first | exact Nat.le_of_ble_eq_true rfl | simp) (by decide) rfl) ?_
        rintro ⟨⟩
        refine VL.nil ?_
        refine VE.then_wp ?_
        refine V.seq ?_
        refine V.seq ?_
        refine V.region ?_
        refine VL.q (.inl rfl) rfl (by decide) (yq_callf rfl known104_SetC (.cons rfl .nil) (fun w hw => (c_l02Is (q := some ⟨b8, 0, none⟩) (o := 0) (all := [.slice a32 (ws.getD k zw).1.length c32, .bool (ws.getD k zw).2.1, .float .f32 (x.getD k 0)]) (ps := (ws.getD k zw).1) (cl := (ws.getD k zw).2.1) (cur := x.getD k 0) (by first | exact Sees.root (by assumption) w hw | exact Sees.own (by repeat (first | exact List.mem_cons_self | exact List.mem_append_left _ (by assumption) | apply List.mem_cons_of_mem | apply List.mem_append_right)) w hw) rfl rfl rfl (by first | exact Sees.root (by assumption) w hw | exact Sees.own (by repeat (first | exact List.mem_cons_self | exact List.mem_append_left _ (by assumption) | apply List.mem_cons_of_mem | apply List.mem_append_right)) w hw) (by omega)))) ?_
        refine VL.r (.inl rfl) rfl (by decide) (yr_not rfl rfl) ?_
        refine VL.nil ?_
        refine VE.then_wp ?_
        refine V.cond rfl (fun h5 => ?_) (fun h5 => ?_)
        · skip
          replace h5 := bnot_t h5
          refine V.seq ?_
          refine V.region ?_
          refine VL.r (.inl rfl) rfl (by decide) (yr_assign (u := .slice none 0 0) rfl rfl) ?_
          refine VL.r (.inl rfl) rfl (by decide) (yr_assign (u := .bool false) rfl rfl) ?_
          refine VL.nil ?_
          refine VE.then_wp ?_
          refine V.ret ?_
          refine VE.then_ret ?_
          refine VE.block_ret ?_
          refine VE.then_ret ?_
          refine VE.then_ret ?_
          refine VE.block_ret ?_
          refine VE.then_ret ?_
          refine ret2 rfl rfl rfl (by nofun) (by nofun) (fun w1 hw => ?_)
          first
            | (have hkn : k = ws.length := by omega
               subst hkn
               have hs := sc_yes (ws := ws) (x := x) (by assumption) (by omega) hI
               rw [setW_take] at hw
               exact ⟨((ar, cr), g), by rw [scV_yes hs, hs, setW_length], by rw [scV_yes hs]; exact hw.outs (List.Sublist.refl _)⟩)
            | (have hs : scOk ws x = false := by first | exact sc_no1 (by assumption) | exact sc_no2 (by omega) | exact sc_no3 (k := k) (by omega) (by first | assumption | (rw [← wire_cur (hrok (by omega))]; assumption))
               exact ⟨((none, 0), fun _ => (none, 0)), by rw [scV_no hs, hs]; rfl, hw.below, by rw [scV_no hs]; simp [whd, whdF, wrents, Ent.at], by rw [scV_no hs]; simp [wrents, Ent.apart]⟩)
        · skip
          replace h5 := bnot_f h5
          refine V.skip ?_
          refine VE.then_wp ?_
          refine V.region ?_
          refine VL.r (.inl rfl) rfl (by decide) (yr_move rfl rfl) ?_
          refine VL.q (.inl rfl) rfl (by decide) (yq_loadS rfl Try.underlying127 sz127_SetC rfl (by first | exact Sees.root (by assumption) | exact Sees.own (by repeat (first | exact List.mem_cons_self | exact List.mem_append_left _ (by assumption) | apply List.mem_cons_of_mem | apply List.mem_append_right)) | exact Sees.root (hR _ (by omega)) | exact Sees.own (RowsIn.mem (by repeat (first | exact RowsIn.here | exact RowsIn.last | apply RowsIn.there | apply RowsIn.thereS)) _ (by omega)) | exact Sees.own (WRowsIn.mem (by repeat (first | exact WRowsIn.here | exact WRowsIn.last | apply WRowsIn.there | apply WRowsIn.thereS)) _ (by omega))) rfl rfl rfl) ?_
          refine VL.new1 (.inl rfl) rfl (by decide) (yn_buildSlice rfl Try.underlying71 elt127_SetC rfl (by decide) (.cons rfl .nil) (by simp) rfl rfl) ?_
          intro b43
          refine VL.c (.inl rfl) rfl (by decide) (yc_appendz 3 rfl rfl Try.underlying71 elt127_SetC rfl rfl (by repeat (first | exact UpdF.here | apply UpdF.there | apply UpdF.thereS)) (by first | exact Sees.root (by assumption) | exact Sees.own (by repeat (first | exact List.mem_cons_self | exact List.mem_append_left _ (by assumption) | apply List.mem_cons_of_mem | apply List.mem_append_right)) | exact Sees.root (hR _ (by omega)) | exact Sees.own (RowsIn.mem (by repeat (first | exact RowsIn.here | exact RowsIn.last | apply RowsIn.there | apply RowsIn.thereS)) _ (by omega)) | exact Sees.own (WRowsIn.mem (by repeat (first | exact WRowsIn.here | exact WRowsIn.last | apply WRowsIn.there | apply WRowsIn.thereS)) _ (by omega))) rfl (by first | rfl | (simp; done) | (rw [whd_length, List.length_take, setW_length]; omega)) (by first | rfl | (rw [vl_length]; done) | (rw [vl_length]; omega)) (by first | rfl | exact vl_scal _ | exact whd_scal _ _) (by first | rfl | exact vl_scal _) (by omega) (by omega)) ?_
          rintro ⟨a44, c44⟩
          refine VL.r (.inl rfl) rfl (by decide) (yr_assign rfl rfl) ?_
          refine VL.nil ?_
          refine VE.block_normal ?_
          refine VE.then_wp ?_
          refine V.region ?_
          refine VL.r (.inl rfl) rfl (by decide) (yr_int rfl rfl rfl (.inl ⟨rfl, wrap_in (by omega)⟩)) ?_
          refine VL.r (.inl rfl) rfl (by decide) (yr_move rfl rfl) ?_
          refine VL.nil ?_
          refine VE.round (k + 1, upd g k (a32, c32), a44, c44) ?_ ?_ ?_ ?_ ?_
          · exact (.cons rfl (.cons rfl .nil))
          · exact (.cons rfl (.cons rfl (.cons rfl .nil)))
          · exact (fun w hw => by
              have h9 := hw.sub (((List.sublist_cons_self _ _).cons_cons _).trans (List.sublist_cons_self _ _))
              dsimp only
              refine Hp.snocW (A := [_]) (k := k) (by omega) (a32, c32) ?_
              rw [← whd_setW (by omega)]
              exact h9)
          · exact ⟨by omega, fun j hj => by rcases Nat.lt_or_ge j k with h | h; exact hI j h; obtain rfl : j = k := (by omega); first | assumption | (rw [wire_cur (hrok (by omega))] at *; assumption)⟩
          · (try dsimp only); omega
      · skip
        replace h4 := ic_lss' h4
        refine V.exit ?_
        refine VE.then_exit ?_
        refine VE.then_exit ?_
        refine VE.block_here ?_
        refine VE.then_wp ?_
        refine V.seq ?_
        refine V.region ?_
        refine VL.r (.inl rfl) rfl (by decide) (yr_move rfl rfl) ?_
        refine VL.r (.inl rfl) rfl (by decide) (yr_assign rfl rfl) ?_
        refine VL.r (.inl rfl) rfl (by decide) (yr_assign (u := .bool true) rfl rfl) ?_
        refine VL.nil ?_
        refine VE.then_wp ?_
        refine V.ret ?_
        refine ret2 rfl rfl rfl (by nofun) (by nofun) (fun w1 hw => ?_)
        first
          | (have hkn : k = ws.length := by omega
             subst hkn
             have hs := sc_yes (ws := ws) (x := x) (by assumption) (by omega) hI
             rw [setW_take] at hw
             exact ⟨((ar, cr), g), by rw [scV_yes hs, hs, setW_length], by rw [scV_yes hs]; exact hw.outs (List.Sublist.refl _)⟩)
          | (have hs : scOk ws x = false := by first | exact sc_no1 (by assumption) | exact sc_no2 (by omega) | exact sc_no3 (k := k) (by omega) (by first | assumption | (rw [← wire_cur (hrok (by omega))]; assumption))
             exact ⟨((none, 0), fun _ => (none, 0)), by rw [scV_no hs, hs]; rfl, hw.below, by rw [scV_no hs]; simp [whd, whdF, wrents, Ent.at], by rw [scV_no hs]; simp [wrents, Ent.apart]⟩)

theorem c_implSC {w : World} {a : Option Addr} {c : Nat} {f : Nat → Option Addr × Nat} {ws : List Wr} {b : Option Addr} {d : Nat} {x : List Nat} (hA : Cl w a (whd f ws)) (hR : WRws w f ws) (hn : wbulk ws ≤ 1050000) (hB : Cl w b (fl x)) (hxn : x.length ≤ 1050000) : New Try.prog 48 [.slice a ws.length c, .slice b x.length d] w (fun (p : (Option Addr × Nat) × (Nat → Option Addr × Nat)) => .tuple #[.slice p.1.1 (scV ws x).length p.1.2, .bool (scOk ws x)]) (fun p => ⟨p.1.1, whd p.2 (scV ws x), p.1.2 * 3, 127⟩ :: wrents 46 p.2 (scV ws x)) := by
  refine New.enter Try.func48 rfl Try.ntmps48 (Nat.le_of_ble_eq_true rfl) ?_
  have hwl : ws.length ≤ wbulk ws := by unfold wbulk; omega
  have hrw : ∀ k, k < ws.length → (ws.getD k zw).1.length ≤ 1050000 := fun k hk => by have := wbulk_row hk; omega
  refine V.seq ?_
  refine V.region ?_
  refine VL.r (.inl rfl) rfl (by decide) (yr_assign (u := .slice none 0 0) rfl rfl) ?_
  refine VL.r (.inl rfl) rfl (by decide) (yr_assign (u := .bool false) rfl rfl) ?_
  refine VL.nil ?_
  refine VE.then_wp ?_
  refine V.seq ?_
  refine V.seq ?_
  refine V.region ?_
  refine VL.r (.inl rfl) rfl (by decide) (yr_move rfl rfl) ?_
  refine VL.q (.inl rfl) rfl (by decide) (yq_callf rfl known106_SetC (.cons rfl .nil) (fun w hw => (c_areDW (by first | exact Sees.root (by assumption) w hw | exact Sees.own (by repeat (first | exact List.mem_cons_self | exact List.mem_append_left _ (by assumption) | apply List.mem_cons_of_mem | apply List.mem_append_right)) w hw) (by first | exact WRws.root (by assumption) hw | exact WRws.own (by repeat (first | exact WRowsIn.here | exact WRowsIn.last | apply WRowsIn.there | apply WRowsIn.thereS)) hw) (by omega)))) ?_
  refine VL.r (.inl rfl) rfl (by decide) (yr_not rfl rfl) ?_
  refine VL.r (.inl rfl) rfl (by decide) (yr_move rfl rfl) ?_
  refine VX.split 14 _ rfl (fun h1 => ?_) (fun h1 => ?_)
  · skip
    replace h1 := bnot_t h1
    refine VL.no rfl rfl rfl rfl rfl (by decide) ?_
    refine VL.no rfl rfl rfl rfl rfl (by decide) ?_
    refine VL.no rfl rfl rfl rfl rfl (by decide) ?_
    refine VL.no rfl rfl rfl rfl rfl (by decide) ?_
    refine VL.no rfl rfl rfl rfl rfl (by decide) ?_
    refine VL.r (.inl rfl) rfl (by decide) (yr_pick_t (u := .bool true) rfl rfl rfl) ?_
    refine VL.nil ?_
    refine VE.then_wp ?_
    refine V.condT rfl ?_
    refine V.seq ?_
    refine V.region ?_
    refine VL.r (.inl rfl) rfl (by decide) (yr_assign (u := .slice none 0 0) rfl rfl) ?_
    refine VL.r (.inl rfl) rfl (by decide) (yr_assign (u := .bool false) rfl rfl) ?_
    refine VL.nil ?_
    refine VE.then_wp ?_
    refine V.ret ?_
    refine VE.then_ret ?_
    refine ret2 rfl rfl rfl (by nofun) (by nofun) (fun w1 hw => ?_)
    first
      | (have hkn : k = ws.length := by omega
         subst hkn
         have hs := sc_yes (ws := ws) (x := x) (by assumption) (by omega) hI
         rw [setW_take] at hw
         exact ⟨((ar, cr), g), by rw [scV_yes hs, hs, setW_length], by rw [scV_yes hs]; exact hw.outs (List.Sublist.refl _)⟩)
      | (have hs : scOk ws x = false := by first | exact sc_no1 (by assumption) | exact sc_no2 (by omega) | exact sc_no3 (k := k) (by omega) (by first | assumption | (rw [← wire_cur (hrok (by omega))]; assumption))
         exact ⟨((none, 0), fun _ => (none, 0)), by rw [scV_no hs, hs]; rfl, hw.below, by rw [scV_no hs]; simp [whd, whdF, wrents, Ent.at], by rw [scV_no hs]; simp [wrents, Ent.apart]⟩)
  · skip
    replace h1 := bnot_f h1
    refine VL.r (.inr ⟨_, _, _, rfl, rfl, rfl⟩) rfl (by decide) (yr_move rfl rfl) ?_
    refine VL.r (.inr ⟨_, _, _, rfl, rfl, rfl⟩) rfl (by decide) (yr_len rfl Try.underlying23 rfl) ?_
    refine VL.r (.inr ⟨_, _, _, rfl, rfl, rfl⟩) rfl (by decide) (yr_move rfl rfl) ?_
    refine VL.r (.inr ⟨_, _, _, rfl, rfl, rfl⟩) rfl (by decide) (yr_len rfl Try.underlying71 rfl) ?_
    refine VL.r (.inr ⟨_, _, _, rfl, rfl, rfl⟩) rfl (by decide) (yr_icmp rfl (.inr (.inl rfl)) rfl rfl) ?_
    refine VL.r (.inl rfl) rfl (by decide) (yr_pick_f rfl rfl rfl) ?_
    refine VL.nil ?_
    refine VE.then_wp ?_
    refine V.cond rfl (fun h3 => ?_) (fun h3 => ?_)
    · skip
      replace h3 := ic_neq h3
      refine V.seq ?_
      refine V.region ?_
      refine VL.r (.inl rfl) rfl (by decide) (yr_assign (u := .slice none 0 0) rfl rfl) ?_
      refine VL.r (.inl rfl) rfl (by decide) (yr_assign (u := .bool false) rfl rfl) ?_
      refine VL.nil ?_
      refine VE.then_wp ?_
      refine V.ret ?_
      refine VE.then_ret ?_
      refine ret2 rfl rfl rfl (by nofun) (by nofun) (fun w1 hw => ?_)
      first
        | (have hkn : k = ws.length := by omega
           subst hkn
           have hs := sc_yes (ws := ws) (x := x) (by assumption) (by omega) hI
           rw [setW_take] at hw
           exact ⟨((ar, cr), g), by rw [scV_yes hs, hs, setW_length], by rw [scV_yes hs]; exact hw.outs (List.Sublist.refl _)⟩)
        | (have hs : scOk ws x = false := by first | exact sc_no1 (by assumption) | exact sc_no2 (by omega) | exact sc_no3 (k := k) (by omega) (by first | assumption | (rw [← wire_cur (hrok (by omega))]; assumption))
           exact ⟨((none, 0), fun _ => (none, 0)), by rw [scV_no hs, hs]; rfl, hw.below, by rw [scV_no hs]; simp [whd, whdF, wrents, Ent.at], by rw [scV_no hs]; simp [wrents, Ent.apart]⟩)
    · skip
      replace h3 := ic_neq' h3
      have hdw9 := dwOk_is (ws := ws) (by assumption)
      have hrow := fun (k : Nat) (hk : k < ws.length) => dw_row (ws := ws) (k := k) (by assumption) hk
      refine V.skip ?_
      refine VE.then_wp ?_
      refine V.seq ?_
      refine V.region ?_
      refine VL.new1 (.inl rfl) rfl (by decide) (yn_buildSlice rfl Try.underlying71 elt127_SetC rfl (by decide) .nil (by simp) rfl rfl) ?_
      intro b21
      refine VL.r (.inl rfl) rfl (by decide) (yr_assign rfl rfl) ?_
      refine VL.nil ?_
      refine VE.then_wp ?_
      refine V.seq ?_
      refine V.seq ?_
      refine V.region ?_
      refine VL.r (.inl rfl) rfl (by decide) (yr_move rfl rfl) ?_
      refine VL.r (.inl rfl) rfl (by decide) (yr_len rfl Try.underlying71 rfl) ?_
      refine VL.r (.inl rfl) rfl (by decide) (yr_move (u := .int .i64 0) rfl rfl) ?_
      refine VL.nil ?_
      refine VE.then_wp ?_
      refine V.block ?_
      refine V.loopc (G := Nat × (Nat → Option Addr × Nat) × (Option Addr) × Nat) [(1, _), (22, _), (23, _)] (fun ⟨k, g, ar, cr⟩ => k ≤ ws.length ∧ ∀ j, j < k → fin (x.getD j 0) = true) (fun ⟨k, g, ar, cr⟩ => (⟨ar, whd g ((setW ws x).take k), cr * 3, 127⟩ :: wrents 46 g ((setW ws x).take k))) (fun ⟨k, g, ar, cr⟩ => [(6, .slice ar k cr), (24, .int .i64 (k : Int))]) (fun ⟨k, g, ar, cr⟩ => ws.length - k) (0, fun _ => (none, 0), some ⟨b21, 0, none⟩, 0) (.cons rfl (.cons rfl (.cons rfl .nil))) (.cons rfl (.cons rfl .nil)) ?_ ?_ ?_
      · exact (fun w hw => hw)
      · exact (by exact ⟨by omega, fun j h => by omega⟩)
      rintro ⟨k, g, ar, cr⟩ ⟨hk, hI⟩
      show V _ _ _ (⟨ar, whd g ((setW ws x).take k), cr * 3, 127⟩ :: wrents 46 g ((setW ws x).take k)) ([(6, .slice ar k cr), (24, .int .i64 (k : Int))] ++ [(1, _), (22, _), (23, _)]) _ _
      have hrk := fun h => hrw k h
      have hrok := fun h => hrow k h
      refine V.seq ?_
      refine V.region ?_
      refine VL.r (.inl rfl) rfl (by decide) (yr_icmp rfl (.inr (.inr (.inl rfl))) rfl rfl) ?_
      refine VL.nil ?_
      refine VE.then_wp ?_
      refine V.seq ?_
      refine V.cond rfl (fun h4 => ?_) (fun h4 => ?_)
      · skip
        replace h4 := ic_lss h4
        refine V.skip ?_
        refine VE.then_wp ?_
        refine V.seq ?_
        refine V.block ?_
        refine V.seq ?_
        refine V.region ?_
        refine VL.r (.inl rfl) rfl (by decide) (yr_move rfl rfl) ?_
        refine VL.q (.inl rfl) rfl (by decide) (yq_idxN (k := k) rfl Try.underlying71 sz127_SetC rfl rfl (by first | exact Sees.root (by assumption) | exact Sees.own (by repeat (first | exact List.mem_cons_self | exact List.mem_append_left _ (by assumption) | apply List.mem_cons_of_mem | apply List.mem_append_right)) | exact Sees.root (hR _ (by omega)) | exact Sees.own (RowsIn.mem (by repeat (first | exact RowsIn.here | exact RowsIn.last | apply RowsIn.there | apply RowsIn.thereS)) _ (by omega)) | exact Sees.own (WRowsIn.mem (by repeat (first | exact WRowsIn.here | exact WRowsIn.last | apply WRowsIn.there | apply WRowsIn.thereS)) _ (by omega))) (by first | rfl | omega | (push_cast; rfl) | (push_cast; omega) | exact tmod_nat _ _) (by exact whd_length _ _) (by decide) (by omega)) ?_
        refine VL.q (.inl rfl) rfl (by decide) (yq_loadW rfl Try.underlying127 sz127_SetC rfl (by first | exact Sees.root (by assumption) | exact Sees.own (by repeat (first | exact List.mem_cons_self | exact List.mem_append_left _ (by assumption) | apply List.mem_cons_of_mem | apply List.mem_append_right)) | exact Sees.root (hR _ (by omega)) | exact Sees.own (RowsIn.mem (by repeat (first | exact RowsIn.here | exact RowsIn.last | apply RowsIn.there | apply RowsIn.thereS)) _ (by omega)) | exact Sees.own (WRowsIn.mem (by repeat (first | exact WRowsIn.here | exact WRowsIn.last | apply WRowsIn.there | apply WRowsIn.thereS)) _ (by omega))) (by omega)) ?_
        refine VL.new1 (.inl rfl) rfl (by decide) (yn_alloc rfl zero127_SetC rfl) ?_
        intro b8
        refine VL.r (.inl rfl) rfl (by decide) (yr_assign rfl rfl) ?_
        refine VL.s (.inl rfl) rfl (yc_store rfl sz127_SetC rfl rfl (by repeat (first | exact UpdF.here | apply UpdF.there | apply UpdF.thereS)) (.inr ⟨rfl, rfl⟩) rfl (by first | exact Nat.le_of_ble_eq_true rfl | simp) (by decide) rfl) ?_
        rintro ⟨⟩
        refine VL.nil ?_
        refine VE.then_wp ?_
        refine V.seq ?_
        refine Dr.V.drawR [(0, 5), (1, 5), (2, 5), (3, 5), (4, 5), (5, 1), (6, 5), (7, 5), (8, 5), (9, 2), (10, 3), (11, 5)] [(9, ((fun b => .pointer (some (adr (some ⟨b, 0, none⟩) 0))), (fun b => ⟨some ⟨b, 0, none⟩, [Value.slice none 0 0, Value.bool false, Value.float .f32 0], 3, 127⟩)))] [] _ mixed_SetC (by kernel_rfl) (fun w hw => hw) ?_
        refine Dr.SW.p rfl (.inl rfl) rfl (by decide) (yq_loadS rfl Try.underlying127 sz127_SetC rfl (by first | exact Sees.root (by assumption) | exact Sees.own (by (try simp only [List.append_assoc, List.cons_append, List.nil_append]); repeat (first | exact List.mem_cons_self | exact List.mem_append_left _ (by assumption) | apply List.mem_cons_of_mem | apply List.mem_append_right)) | exact Sees.root (hR _ (by omega)) | exact Sees.own (RowsIn.mem (by (try simp only [List.append_assoc, List.cons_append, List.nil_append]); repeat (first | exact RowsIn.here | exact RowsIn.last | apply RowsIn.there | apply RowsIn.thereS)) _ (by omega)) | exact Sees.own (WRowsIn.mem (by (try simp only [List.append_assoc, List.cons_append, List.nil_append]); repeat (first | exact WRowsIn.here | exact WRowsIn.last | apply WRowsIn.there | apply WRowsIn.thereS)) _ (by omega))) rfl rfl rfl) ?_
        refine Dr.SW.r rfl (.inl rfl) rfl (by decide) (yr_move rfl rfl) ?_
        refine Dr.SW.r rfl (.inl rfl) rfl (by decide) (yr_move rfl rfl) ?_
        refine Dr.SW.p rfl (.inl rfl) rfl (by decide) (yq_idx (k := k) rfl Try.underlying23 sz27_SetC rfl rfl (by first | exact Sees.root (by assumption) | exact Sees.own (by (try simp only [List.append_assoc, List.cons_append, List.nil_append]); repeat (first | exact List.mem_cons_self | exact List.mem_append_left _ (by assumption) | apply List.mem_cons_of_mem | apply List.mem_append_right)) | exact Sees.root (hR _ (by omega)) | exact Sees.own (RowsIn.mem (by (try simp only [List.append_assoc, List.cons_append, List.nil_append]); repeat (first | exact RowsIn.here | exact RowsIn.last | apply RowsIn.there | apply RowsIn.thereS)) _ (by omega)) | exact Sees.own (WRowsIn.mem (by (try simp only [List.append_assoc, List.cons_append, List.nil_append]); repeat (first | exact WRowsIn.here | exact WRowsIn.last | apply WRowsIn.there | apply WRowsIn.thereS)) _ (by omega))) (by first | rfl | omega | (push_cast; rfl) | (push_cast; omega) | exact tmod_nat _ _) (by exact fl_length _) (by omega)) ?_
        refine Dr.SW.p rfl (.inl rfl) rfl (by decide) (yq_loadF rfl fb27_SetC rfl (by first | exact Sees.root (by assumption) | exact Sees.own (by (try simp only [List.append_assoc, List.cons_append, List.nil_append]); repeat (first | exact List.mem_cons_self | exact List.mem_append_left _ (by assumption) | apply List.mem_cons_of_mem | apply List.mem_append_right)) | exact Sees.root (hR _ (by omega)) | exact Sees.own (RowsIn.mem (by (try simp only [List.append_assoc, List.cons_append, List.nil_append]); repeat (first | exact RowsIn.here | exact RowsIn.last | apply RowsIn.there | apply RowsIn.thereS)) _ (by omega)) | exact Sees.own (WRowsIn.mem (by (try simp only [List.append_assoc, List.cons_append, List.nil_append]); repeat (first | exact WRowsIn.here | exact WRowsIn.last | apply WRowsIn.there | apply WRowsIn.thereS)) _ (by omega))) (by omega)) ?_
        rcases Bool.eq_false_or_eq_true (fin (x.getD k 0)) with hm | hm
        · skip
          refine Dr.SW.new1 rfl (.inl rfl) rfl (by decide) (yn_callf rfl known107_SetC (.cons rfl (.cons rfl .nil)) (fun w hw => (c_feedY (ps := (ws.getD k zw).1) (cl := (ws.getD k zw).2.1) (cur := (ws.getD k zw).2.2) (hR.root hw k (by omega)) (by omega) (hrok (by omega)) hm))) ?_
          rintro ⟨a35, c35⟩
          refine Dr.SW.r rfl (.inl rfl) rfl (by decide) (yr_move rfl rfl) ?_
          refine Dr.SW.r rfl (.inl rfl) rfl (by decide) (yr_extract rfl rfl rfl (by nofun)) ?_
          refine Dr.SW.r rfl (.inl rfl) rfl (by decide) (yr_extract rfl rfl rfl (by nofun)) ?_
          refine Dr.SW.a rfl rfl rfl (by decide) rfl (fun w0 => (yn_alloc rfl zero127_SetC rfl)) ?_
          intro b9
          refine Dr.SW.s rfl (.inl rfl) rfl (yc_store rfl sz127_SetC rfl rfl (Dr.UpdF.app (by repeat (first | exact UpdF.here | apply UpdF.there | apply UpdF.thereS))) (.inr ⟨rfl, rfl⟩) rfl (by first | exact Nat.le_of_ble_eq_true rfl | simp) (by decide) rfl) ?_
          rintro ⟨⟩
          refine Dr.SW.r rfl (.inl rfl) rfl (by decide) (yr_assign rfl rfl) ?_
          refine Dr.SW.done ?_
          refine Dr.eqO (by simp only [List.append_nil, List.append_assoc, List.cons_append, List.nil_append] <;> rfl) ?_
          refine VE.then_wp ?_
          refine V.seq ?_
          refine V.seq ?_
          refine V.region ?_
          refine VL.r (.inl rfl) rfl (by decide) (yr_move rfl rfl) ?_
          refine VL.r (.inl rfl) rfl (by decide) (yr_not rfl rfl) ?_
          refine VL.nil ?_
          refine VE.then_wp ?_
          refine V.cond rfl (fun h5 => ?_) (fun h5 => ?_)
          · skip
            replace h5 := bnot_t h5
            (cases h5)
          · skip
            replace h5 := bnot_f h5
            refine V.skip ?_
            refine VE.then_wp ?_
            refine V.region ?_
            refine VL.r (.inl rfl) rfl (by decide) (yr_move rfl rfl) ?_
            refine VL.q (.inl rfl) rfl (by decide) (yq_loadS rfl Try.underlying127 sz127_SetC rfl (by first | exact Sees.root (by assumption) | exact Sees.own (by repeat (first | exact List.mem_cons_self | exact List.mem_append_left _ (by assumption) | apply List.mem_cons_of_mem | apply List.mem_append_right)) | exact Sees.root (hR _ (by omega)) | exact Sees.own (RowsIn.mem (by repeat (first | exact RowsIn.here | exact RowsIn.last | apply RowsIn.there | apply RowsIn.thereS)) _ (by omega)) | exact Sees.own (WRowsIn.mem (by repeat (first | exact WRowsIn.here | exact WRowsIn.last | apply WRowsIn.there | apply WRowsIn.thereS)) _ (by omega))) rfl rfl rfl) ?_
            refine VL.new1 (.inl rfl) rfl (by decide) (yn_buildSlice rfl Try.underlying71 elt127_SetC rfl (by decide) (.cons rfl .nil) (by simp) rfl rfl) ?_
            intro b42
            refine VL.c (.inl rfl) rfl (by decide) (yc_appendz 3 rfl rfl Try.underlying71 elt127_SetC rfl rfl (by repeat (first | exact UpdF.here | apply UpdF.there | apply UpdF.thereS)) (by first | exact Sees.root (by assumption) | exact Sees.own (by repeat (first | exact List.mem_cons_self | exact List.mem_append_left _ (by assumption) | apply List.mem_cons_of_mem | apply List.mem_append_right)) | exact Sees.root (hR _ (by omega)) | exact Sees.own (RowsIn.mem (by repeat (first | exact RowsIn.here | exact RowsIn.last | apply RowsIn.there | apply RowsIn.thereS)) _ (by omega)) | exact Sees.own (WRowsIn.mem (by repeat (first | exact WRowsIn.here | exact WRowsIn.last | apply WRowsIn.there | apply WRowsIn.thereS)) _ (by omega))) rfl (by first | rfl | (simp; done) | (rw [whd_length, List.length_take, setW_length]; omega)) (by first | rfl | (rw [vl_length]; done) | (rw [vl_length]; omega)) (by first | rfl | exact vl_scal _ | exact whd_scal _ _) (by first | rfl | exact vl_scal _) (by omega) (by omega)) ?_
            rintro ⟨a43, c43⟩
            refine VL.r (.inl rfl) rfl (by decide) (yr_assign rfl rfl) ?_
            refine VL.nil ?_
            refine VE.block_normal ?_
            refine VE.then_wp ?_
            refine V.region ?_
            refine VL.r (.inl rfl) rfl (by decide) (yr_int rfl rfl rfl (.inl ⟨rfl, wrap_in (by omega)⟩)) ?_
            refine VL.r (.inl rfl) rfl (by decide) (yr_move rfl rfl) ?_
            refine VL.nil ?_
            refine VE.round (k + 1, upd g k (a35, c35), a43, c43) ?_ ?_ ?_ ?_ ?_
            · exact (.cons rfl (.cons rfl .nil))
            · exact (.cons rfl (.cons rfl (.cons rfl .nil)))
            · exact (fun w hw => by
                have h9 := hw.sub (List.Sublist.trans ((List.sublist_cons_self _ _).cons_cons _) ((List.sublist_cons_self _ _).trans (List.sublist_cons_self _ _)))
                dsimp only
                refine Hp.snocW (A := [_]) (k := k) (by omega) (a35, c35) ?_
                rw [← whd_setW (by omega)]
                exact h9)
            · exact ⟨by omega, fun j hj => by rcases Nat.lt_or_ge j k with h | h; exact hI j h; obtain rfl : j = k := (by omega); first | assumption | (rw [wire_cur (hrok (by omega))] at *; assumption)⟩
            · (try dsimp only); omega
        · skip
          refine Dr.SW.new1 rfl (.inl rfl) rfl (by decide) (yn_callf rfl known107_SetC (.cons rfl (.cons rfl .nil)) (fun w hw => (c_feedN (ps := (ws.getD k zw).1) (cl := (ws.getD k zw).2.1) (cur := (ws.getD k zw).2.2) (hR.root hw k (by omega)) (by omega) (hrok (by omega)) hm))) ?_
          rintro ⟨a35, c35⟩
          refine Dr.SW.r rfl (.inl rfl) rfl (by decide) (yr_move rfl rfl) ?_
          refine Dr.SW.r rfl (.inl rfl) rfl (by decide) (yr_extract rfl rfl rfl (by nofun)) ?_
          refine Dr.SW.r rfl (.inl rfl) rfl (by decide) (yr_extract rfl rfl rfl (by nofun)) ?_
          refine Dr.SW.a rfl rfl rfl (by decide) rfl (fun w0 => (yn_alloc rfl zero127_SetC rfl)) ?_
          intro b9
          refine Dr.SW.s rfl (.inl rfl) rfl (yc_store rfl sz127_SetC rfl rfl (Dr.UpdF.app (by repeat (first | exact UpdF.here | apply UpdF.there | apply UpdF.thereS))) (.inr ⟨rfl, rfl⟩) rfl (by first | exact Nat.le_of_ble_eq_true rfl | simp) (by decide) rfl) ?_
          rintro ⟨⟩
          refine Dr.SW.r rfl (.inl rfl) rfl (by decide) (yr_assign rfl rfl) ?_
          refine Dr.SW.done ?_
          refine Dr.eqO (by simp only [List.append_nil, List.append_assoc, List.cons_append, List.nil_append] <;> rfl) ?_
          refine VE.then_wp ?_
          refine V.seq ?_
          refine V.seq ?_
          refine V.region ?_
          refine VL.r (.inl rfl) rfl (by decide) (yr_move rfl rfl) ?_
          refine VL.r (.inl rfl) rfl (by decide) (yr_not rfl rfl) ?_
          refine VL.nil ?_
          refine VE.then_wp ?_
          refine V.cond rfl (fun h6 => ?_) (fun h6 => ?_)
          · skip
            replace h6 := bnot_t h6
            refine V.seq ?_
            refine V.region ?_
            refine VL.r (.inl rfl) rfl (by decide) (yr_assign (u := .slice none 0 0) rfl rfl) ?_
            refine VL.r (.inl rfl) rfl (by decide) (yr_assign (u := .bool false) rfl rfl) ?_
            refine VL.nil ?_
            refine VE.then_wp ?_
            refine V.ret ?_
            refine VE.then_ret ?_
            refine VE.block_ret ?_
            refine VE.then_ret ?_
            refine VE.then_ret ?_
            refine VE.block_ret ?_
            refine VE.then_ret ?_
            refine ret2 rfl rfl rfl (by nofun) (by nofun) (fun w1 hw => ?_)
            first
              | (have hkn : k = ws.length := by omega
                 subst hkn
                 have hs := sc_yes (ws := ws) (x := x) (by assumption) (by omega) hI
                 rw [setW_take] at hw
                 exact ⟨((ar, cr), g), by rw [scV_yes hs, hs, setW_length], by rw [scV_yes hs]; exact hw.outs (List.Sublist.refl _)⟩)
              | (have hs : scOk ws x = false := by first | exact sc_no1 (by assumption) | exact sc_no2 (by omega) | exact sc_no3 (k := k) (by omega) (by first | assumption | (rw [← wire_cur (hrok (by omega))]; assumption))
                 exact ⟨((none, 0), fun _ => (none, 0)), by rw [scV_no hs, hs]; rfl, hw.below, by rw [scV_no hs]; simp [whd, whdF, wrents, Ent.at], by rw [scV_no hs]; simp [wrents, Ent.apart]⟩)
          · skip
            replace h6 := bnot_f h6
            (cases h6)
      · skip
        replace h4 := ic_lss' h4
        refine V.exit ?_
        refine VE.then_exit ?_
        refine VE.then_exit ?_
        refine VE.block_here ?_
        refine VE.then_wp ?_
        refine V.seq ?_
        refine V.region ?_
        refine VL.r (.inl rfl) rfl (by decide) (yr_move rfl rfl) ?_
        refine VL.r (.inl rfl) rfl (by decide) (yr_assign rfl rfl) ?_
        refine VL.r (.inl rfl) rfl (by decide) (yr_assign (u := .bool true) rfl rfl) ?_
        refine VL.nil ?_
        refine VE.then_wp ?_
        refine V.ret ?_
        refine ret2 rfl rfl rfl (by nofun) (by nofun) (fun w1 hw => ?_)
        first
          | (have hkn : k = ws.length := by omega
             subst hkn
             have hs := sc_yes (ws := ws) (x := x) (by assumption) (by omega) hI
             rw [setW_take] at hw
             exact ⟨((ar, cr), g), by rw [scV_yes hs, hs, setW_length], by rw [scV_yes hs]; exact hw.outs (List.Sublist.refl _)⟩)
          | (have hs : scOk ws x = false := by first | exact sc_no1 (by assumption) | exact sc_no2 (by omega) | exact sc_no3 (k := k) (by omega) (by first | assumption | (rw [← wire_cur (hrok (by omega))]; assumption))
             exact ⟨((none, 0), fun _ => (none, 0)), by rw [scV_no hs, hs]; rfl, hw.below, by rw [scV_no hs]; simp [whd, whdF, wrents, Ent.at], by rw [scV_no hs]; simp [wrents, Ent.apart]⟩)

end Go.Proofs.Ytcimhmnbemgpoaa
