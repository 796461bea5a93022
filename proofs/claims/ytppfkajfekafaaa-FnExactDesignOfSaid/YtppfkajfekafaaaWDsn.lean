/- Walks: Dsn. Printed by gen.py. -/
import Derived.Test.YtppfkajfekafaaaWFlat
import Derived.Test.YtppfkajfekafaaaWOwn
import Derived.Test.YtppfkajfekafaaaDsn
import Derived.KernelRfl
namespace Go.Proofs.Ytppfkajfekafaaa
open Go.RowKit
set_option linter.unusedVariables false
set_option linter.unusedSimpArgs false
set_option maxRecDepth 20000

theorem zero53_Dsn : (Try.prog.info? 53).bind (·.zero) = some (Value.agg #[Value.float .f32 0, Value.float .f32 0, Value.float .f32 0]) := by kernel_rfl
theorem sz122_Dsn : (Try.prog.info? 122).map (·.size) = some 3 := by kernel_rfl
theorem known147_Dsn : Known Try.prog 147 := Known.mk' Try.func147 (by kernel_rfl)
theorem sz53_Dsn : (Try.prog.info? 53).map (·.size) = some 3 := by kernel_rfl
theorem known95_Dsn : Known Try.prog 95 := Known.mk' Try.func95 (by kernel_rfl)
theorem known157_Dsn : Known Try.prog 157 := Known.mk' Try.func157 (by kernel_rfl)
theorem known165_Dsn : Known Try.prog 165 := Known.mk' Try.func165 (by kernel_rfl)
theorem zero77_Dsn : (Try.prog.info? 77).bind (·.zero) = some (Value.agg #[Value.slice none 0 0, Value.slice none 0 0, Value.slice none 0 0]) := by kernel_rfl
theorem known80_Dsn : Known Try.prog 80 := Known.mk' Try.func80 (by kernel_rfl)
theorem lay77_Dsn : Lay Try.prog 77 [Value.slice none 0 0, Value.slice none 0 0, Value.slice none 0 0] [(0, 1), (1, 1), (2, 1)] := Lay.mk' (by kernel_rfl) (by kernel_rfl)
theorem sz77_Dsn : (Try.prog.info? 77).map (·.size) = some 3 := by kernel_rfl
theorem known81_Dsn : Known Try.prog 81 := Known.mk' Try.func81 (by kernel_rfl)
theorem elt43_Dsn : Elt Try.prog 43 [Value.float .f32 0] 4 := Elt.mk' (by kernel_rfl) (by decide)
theorem zero122_Dsn : (Try.prog.info? 122).bind (·.zero) = some (Value.agg #[Value.slice none 0 0, Value.bool false, Value.float .f32 0]) := by kernel_rfl
theorem sz43_Dsn : (Try.prog.info? 43).map (·.size) = some 1 := by kernel_rfl
theorem mixed_Dsn : Try.prog.follows .mixedOrders = true := by kernel_rfl
theorem known107_Dsn : Known Try.prog 107 := Known.mk' Try.func107 (by kernel_rfl)
theorem known83_Dsn : Known Try.prog 83 := Known.mk' Try.func83 (by kernel_rfl)
theorem sz75_Dsn : (Try.prog.info? 75).map (·.size) = some 1 := by kernel_rfl
theorem fb75_Dsn : flatB Try.prog 75 = true := by kernel_rfl
theorem elt24_Dsn : Elt Try.prog 24 [Value.slice none 0 0] 24 := Elt.mk' (by kernel_rfl) (by decide)
theorem sz24_Dsn : (Try.prog.info? 24).map (·.size) = some 1 := by kernel_rfl
theorem fb24_Dsn : flatB Try.prog 24 = true := by kernel_rfl
theorem known108_Dsn : Known Try.prog 108 := Known.mk' Try.func108 (by kernel_rfl)
theorem known86_Dsn : Known Try.prog 86 := Known.mk' Try.func86 (by kernel_rfl)
theorem known87_Dsn : Known Try.prog 87 := Known.mk' Try.func87 (by kernel_rfl)
theorem known109_Dsn : Known Try.prog 109 := Known.mk' Try.func109 (by kernel_rfl)
theorem sz51_Dsn : (Try.prog.info? 51).map (·.size) = some 1 := by kernel_rfl
theorem fb51_Dsn : flatB Try.prog 51 = true := by kernel_rfl
theorem sz4_Dsn : (Try.prog.info? 4).map (·.size) = some 1 := by kernel_rfl
theorem fb4_Dsn : flatB Try.prog 4 = true := by kernel_rfl
theorem lay122_Dsn : Lay Try.prog 122 [Value.slice none 0 0, Value.bool false, Value.float .f32 0] [(0, 1), (1, 1), (2, 1)] := Lay.mk' (by kernel_rfl) (by kernel_rfl)
theorem known110_Dsn : Known Try.prog 110 := Known.mk' Try.func110 (by kernel_rfl)
theorem known89_Dsn : Known Try.prog 89 := Known.mk' Try.func89 (by kernel_rfl)
theorem known111_Dsn : Known Try.prog 111 := Known.mk' Try.func111 (by kernel_rfl)
attribute [local irreducible] fop fcmp fconv sqrt32 fneg segF fieldS fieldI List.getD wireF inner3

theorem c_fieldOf2 {w : World} {a : Option Addr} {c : Nat} {ps : List V3} {cl : Bool} {cur : Nat} {p1 p2 p3 : Nat} (hA : Cl w a (vl ps)) (hlo : 2 ≤ ps.length) (hhi : ps.length ≤ 48) (hok : wireOk (ps, cl, cur) = true) (hp : fin3 (p1, p2, p3) = true) : Pure Try.prog 110 [.agg #[.slice a ps.length c, .bool cl, .float .f32 cur], vv (p1, p2, p3)] w (.tuple #[vv (ifV (wireF (ps, cl, cur) (p1, p2, p3))), .bool (fin3 (wireF (ps, cl, cur) (p1, p2, p3)))]) := by
  refine Pure.enter Try.func110 rfl Try.ntmps110 (Nat.le_of_ble_eq_true rfl) ?_
  refine V.seq ?_
  refine V.region ?_
  refine VL.new1 (.inl rfl) rfl (by decide) (yn_box rfl rfl (.inr ⟨rfl, rfl⟩)) ?_
  intro b2
  refine VL.new1 (.inl rfl) rfl (by decide) (yn_box rfl rfl (.inr ⟨rfl, rfl⟩)) ?_
  intro b3
  refine VL.new1 (.inl rfl) rfl (by decide) (yn_alloc rfl zero53_Dsn rfl) ?_
  intro b4
  refine VL.r (.inl rfl) rfl (by decide) (yr_assign (u := .bool false) rfl rfl) ?_
  refine VL.nil ?_
  refine VE.then_wp ?_
  refine V.seq ?_
  refine V.seq ?_
  refine V.region ?_
  refine VL.q (.inl rfl) rfl (by decide) (yq_loadS rfl Try.underlying122 sz122_Dsn rfl (by first | exact Sees.root (by assumption) | exact Sees.own (by repeat (first | exact List.mem_cons_self | exact List.mem_append_left _ (by assumption) | apply List.mem_cons_of_mem | apply List.mem_append_right)) | exact Sees.root (hR _ (by omega)) | exact Sees.own (RowsIn.mem (by repeat (first | exact RowsIn.here | exact RowsIn.last | apply RowsIn.there | apply RowsIn.thereS)) _ (by omega)) | exact Sees.own (WRowsIn.mem (by repeat (first | exact WRowsIn.here | exact WRowsIn.last | apply WRowsIn.there | apply WRowsIn.thereS)) _ (by omega))) rfl rfl rfl) ?_
  refine VL.q (.inl rfl) rfl (by decide) (yq_callf rfl known147_Dsn (.cons rfl .nil) (fun w hw => (c_implWire (by first | exact Sees.root (by assumption) w hw | exact Sees.own (by repeat (first | exact List.mem_cons_self | exact List.mem_append_left _ (by assumption) | apply List.mem_cons_of_mem | apply List.mem_append_right)) w hw) (by omega)))) ?_
  refine VL.r (.inl rfl) rfl (by decide) (yr_not rfl rfl) ?_
  refine VL.r (.inl rfl) rfl (by decide) (yr_move rfl rfl) ?_
  refine VX.split 9 _ rfl (fun h1 => ?_) (fun h1 => ?_)
  · skip
    replace h1 := bnot_t h1
    (rw [hok] at h1; cases h1)
  · skip
    replace h1 := bnot_f h1
    refine VL.q (.inr ⟨_, _, _, rfl, rfl, rfl⟩) rfl (by decide) (yq_loadS rfl Try.underlying53 sz53_Dsn rfl (by first | exact Sees.root (by assumption) | exact Sees.own (by repeat (first | exact List.mem_cons_self | exact List.mem_append_left _ (by assumption) | apply List.mem_cons_of_mem | apply List.mem_append_right)) | exact Sees.root (hR _ (by omega)) | exact Sees.own (RowsIn.mem (by repeat (first | exact RowsIn.here | exact RowsIn.last | apply RowsIn.there | apply RowsIn.thereS)) _ (by omega)) | exact Sees.own (WRowsIn.mem (by repeat (first | exact WRowsIn.here | exact WRowsIn.last | apply WRowsIn.there | apply WRowsIn.thereS)) _ (by omega))) rfl rfl rfl) ?_
    refine VL.q (.inr ⟨_, _, _, rfl, rfl, rfl⟩) rfl (by decide) (yq_callf rfl known95_Dsn (.cons rfl .nil) (fun w hw => c_fin3)) ?_
    refine VL.r (.inr ⟨_, _, _, rfl, rfl, rfl⟩) rfl (by decide) (yr_not rfl rfl) ?_
    refine VL.r (.inl rfl) rfl (by decide) (yr_pick_f rfl rfl rfl) ?_
    refine VL.nil ?_
    refine VE.then_wp ?_
    refine V.cond rfl (fun h2 => ?_) (fun h2 => ?_)
    · skip
      replace h2 := bnot_t h2
      (rw [hp] at h2; cases h2)
    · skip
      replace h2 := bnot_f h2
      refine V.skip ?_
      refine VE.then_wp ?_
      refine V.seq ?_
      refine V.region ?_
      refine VL.q (.inl rfl) rfl (by decide) (yq_loadS rfl Try.underlying122 sz122_Dsn rfl (by first | exact Sees.root (by assumption) | exact Sees.own (by repeat (first | exact List.mem_cons_self | exact List.mem_append_left _ (by assumption) | apply List.mem_cons_of_mem | apply List.mem_append_right)) | exact Sees.root (hR _ (by omega)) | exact Sees.own (RowsIn.mem (by repeat (first | exact RowsIn.here | exact RowsIn.last | apply RowsIn.there | apply RowsIn.thereS)) _ (by omega)) | exact Sees.own (WRowsIn.mem (by repeat (first | exact WRowsIn.here | exact WRowsIn.last | apply WRowsIn.there | apply WRowsIn.thereS)) _ (by omega))) rfl rfl rfl) ?_
      refine VL.q (.inl rfl) rfl (by decide) (yq_loadS rfl Try.underlying53 sz53_Dsn rfl (by first | exact Sees.root (by assumption) | exact Sees.own (by repeat (first | exact List.mem_cons_self | exact List.mem_append_left _ (by assumption) | apply List.mem_cons_of_mem | apply List.mem_append_right)) | exact Sees.root (hR _ (by omega)) | exact Sees.own (RowsIn.mem (by repeat (first | exact RowsIn.here | exact RowsIn.last | apply RowsIn.there | apply RowsIn.thereS)) _ (by omega)) | exact Sees.own (WRowsIn.mem (by repeat (first | exact WRowsIn.here | exact WRowsIn.last | apply WRowsIn.there | apply WRowsIn.thereS)) _ (by omega))) rfl rfl rfl) ?_
      refine VL.q (.inl rfl) rfl (by decide) (yq_callf rfl known157_Dsn (.cons rfl (.cons rfl .nil)) (fun w hw => (c_field (by first | exact Sees.root (by assumption) w hw | exact Sees.own (by repeat (first | exact List.mem_cons_self | exact List.mem_append_left _ (by assumption) | apply List.mem_cons_of_mem | apply List.mem_append_right)) w hw) (by omega) (by omega)))) ?_
      refine VL.q (.inl rfl) rfl (by decide) (yq_callf rfl known165_Dsn (.cons rfl .nil) (fun w hw => c_ifV)) ?_
      refine VL.r (.inl rfl) rfl (by decide) (yr_extract rfl rfl rfl (by nofun)) ?_
      refine VL.r (.inl rfl) rfl (by decide) (yr_extract rfl rfl rfl (by nofun)) ?_
      refine VL.s (.inl rfl) rfl (yc_store rfl sz53_Dsn rfl rfl (by repeat (first | exact UpdF.here | apply UpdF.there | apply UpdF.thereS)) (.inr ⟨rfl, rfl⟩) rfl (by first | exact Nat.le_of_ble_eq_true rfl | simp) (by decide) rfl) ?_
      rintro ⟨⟩
      refine VL.r (.inl rfl) rfl (by decide) (yr_assign rfl rfl) ?_
      refine VL.nil ?_
      refine VE.then_wp ?_
      refine V.ret ?_
      refine retN rfl (.cons (rv_cellS rfl Try.underlying53 sz53_Dsn (by first | exact Sees.root (by assumption) | exact Sees.own (by repeat (first | exact List.mem_cons_self | exact List.mem_append_left _ (by assumption) | apply List.mem_cons_of_mem | apply List.mem_append_right)) | exact Sees.root (hR _ (by omega)) | exact Sees.own (RowsIn.mem (by repeat (first | exact RowsIn.here | exact RowsIn.last | apply RowsIn.there | apply RowsIn.thereS)) _ (by omega)) | exact Sees.own (WRowsIn.mem (by repeat (first | exact WRowsIn.here | exact WRowsIn.last | apply WRowsIn.there | apply WRowsIn.thereS)) _ (by omega))) rfl rfl rfl) (.cons (rv_tmp rfl (by nofun)) .nil)) (by nofun) (fun w1 hw => ?_)
      exact ⟨rfl, hw.below⟩

theorem c_specDsn {w : World} {a : Option Addr} {c : Nat} {f : Nat → Option Addr × Nat} {ws : List Wr} {a' : Option Addr} {c' : Nat} {vs : List V3} {y1 y2 y3 : Nat} {b : Option Addr} {d : Nat} {xs : List Nat} (hA : Cl w a (whd f ws)) (hR : WRws w f ws) (hn : wbulk ws ≤ 1050000) (hV : Cl w a' (vl vs)) (hvn : vs.length ≤ 1050000) (hB : Cl w b (fl xs)) (hxn : xs.length ≤ 1050000) : New Try.prog 45 [.slice a ws.length c, .slice a' vs.length c', vv (y1, y2, y3), .slice b xs.length d] w (fun (p : ((Option Addr × Nat) × (Nat → Option Addr × Nat)) × (Option Addr × Nat) × (Option Addr × Nat)) => .tuple #[.agg #[.slice p.1.1.1 (dsX ws vs (y1, y2, y3) xs).length p.1.1.2, .slice p.2.1.1 (dsW ws vs (y1, y2, y3) xs).length p.2.1.2, .slice p.2.2.1 (dsG ws vs (y1, y2, y3) xs).length p.2.2.2], .bool (dsOk ws vs (y1, y2, y3) xs)]) (fun p => ⟨p.2.2.1, fl (dsG ws vs (y1, y2, y3) xs), p.2.2.2 * 1, 43⟩ :: ⟨p.2.1.1, fl (dsW ws vs (y1, y2, y3) xs), p.2.1.2 * 1, 43⟩ :: ⟨p.1.1.1, hd p.1.2 (dsX ws vs (y1, y2, y3) xs), p.1.1.2 * 1, 24⟩ :: rents 43 p.1.2 (dsX ws vs (y1, y2, y3) xs)) := by
  refine New.enter Try.func45 rfl Try.ntmps45 (Nat.le_of_ble_eq_true rfl) ?_
  have hwl : ws.length ≤ wbulk ws := by unfold wbulk; omega
  have hrw : ∀ k, k < ws.length → (ws.getD k zw).1.length ≤ 1050000 := fun k hk => by have := wbulk_row hk; omega
  refine V.seq ?_
  refine V.region ?_
  refine VL.new1 (.inl rfl) rfl (by decide) (yn_box rfl rfl (.inr ⟨rfl, rfl⟩)) ?_
  intro b6
  refine VL.new1 (.inl rfl) rfl (by decide) (yn_alloc rfl zero77_Dsn rfl) ?_
  intro b8
  refine VL.r (.inl rfl) rfl (by decide) (yr_assign (u := .bool false) rfl rfl) ?_
  refine VL.nil ?_
  refine VE.then_wp ?_
  refine V.seq ?_
  refine V.seq ?_
  refine V.region ?_
  refine VL.r (.inl rfl) rfl (by decide) (yr_move rfl rfl) ?_
  refine VL.q (.inl rfl) rfl (by decide) (yq_callf rfl known80_Dsn (.cons rfl .nil) (fun w hw => (c_l07Wires (by first | exact Sees.root (by assumption) w hw | exact Sees.own (by repeat (first | exact List.mem_cons_self | exact List.mem_append_left _ (by assumption) | apply List.mem_cons_of_mem | apply List.mem_append_right)) w hw) (by first | exact WRws.root (by assumption) hw | exact WRws.own (by repeat (first | exact WRowsIn.here | exact WRowsIn.last | apply WRowsIn.there | apply WRowsIn.thereS)) hw) (by omega)))) ?_
  refine VL.r (.inl rfl) rfl (by decide) (yr_not rfl rfl) ?_
  refine VL.r (.inl rfl) rfl (by decide) (yr_move rfl rfl) ?_
  refine VX.split 18 _ rfl (fun h1 => ?_) (fun h1 => ?_)
  · skip
    replace h1 := bnot_t h1
    refine VL.no rfl rfl rfl rfl rfl (by decide) ?_
    refine VL.no rfl rfl rfl rfl rfl (by decide) ?_
    refine VL.no rfl rfl rfl rfl rfl (by decide) ?_
    refine VL.r (.inl rfl) rfl (by decide) (yr_pick_t (u := .bool true) rfl rfl rfl) ?_
    refine VL.r (.inl rfl) rfl (by decide) (yr_move rfl rfl) ?_
    refine VL.no rfl rfl rfl rfl rfl (by decide) ?_
    refine VL.no rfl rfl rfl rfl rfl (by decide) ?_
    refine VL.no rfl rfl rfl rfl rfl (by decide) ?_
    refine VL.no rfl rfl rfl rfl rfl (by decide) ?_
    refine VL.no rfl rfl rfl rfl rfl (by decide) ?_
    refine VL.r (.inl rfl) rfl (by decide) (yr_pick_t (u := .bool true) rfl rfl rfl) ?_
    refine VL.nil ?_
    refine VE.then_wp ?_
    refine V.condT rfl ?_
    refine V.seq ?_
    refine V.region ?_
    refine VL.r (.inl rfl) rfl (by decide) (yr_build rfl lay77_Dsn rfl .nil (by first | (simp; done) | (simp [vv]; done) | (simp [cn, cn1, cn0]; done)) rfl) ?_
    refine VL.s (.inl rfl) rfl (yc_store rfl sz77_Dsn rfl rfl (by repeat (first | exact UpdF.here | apply UpdF.there | apply UpdF.thereS)) (.inr ⟨rfl, rfl⟩) rfl (by first | exact Nat.le_of_ble_eq_true rfl | simp) (by decide) rfl) ?_
    rintro ⟨⟩
    refine VL.r (.inl rfl) rfl (by decide) (yr_assign (u := .bool false) rfl rfl) ?_
    refine VL.nil ?_
    refine VE.then_wp ?_
    refine V.ret ?_
    refine VE.then_ret ?_
    refine retN rfl (.cons (rv_cellS rfl Try.underlying77 sz77_Dsn (by first | exact Sees.root (by assumption) | exact Sees.own (by repeat (first | exact List.mem_cons_self | exact List.mem_append_left _ (by assumption) | apply List.mem_cons_of_mem | apply List.mem_append_right)) | exact Sees.root (hR _ (by omega)) | exact Sees.own (RowsIn.mem (by repeat (first | exact RowsIn.here | exact RowsIn.last | apply RowsIn.there | apply RowsIn.thereS)) _ (by omega)) | exact Sees.own (WRowsIn.mem (by repeat (first | exact WRowsIn.here | exact WRowsIn.last | apply WRowsIn.there | apply WRowsIn.thereS)) _ (by omega))) rfl rfl rfl) (.cons (rv_tmp rfl (by nofun)) .nil)) (by nofun) (fun w1 hw => ?_)
    first
      | (have hs9 := ds_yes (ws := ws) (vs := vs) (way := (y1, y2, y3)) (xs := xs) (by assumption) (by assumption) (by assumption) hm
         rw [dsX_yes hs9, dsW_yes hs9, dsG_yes hs9, hs9]
         refine ⟨(((ar, cr), g), (a33, c33), (ag, cg)), by rw [dX_length, dG_length] <;> rfl, ?_⟩
         exact (hw.pick (by apply Pick.four; all_goals (repeat (first | exact Rem.here | exact Rem.all | exact Rem.hereS | apply Rem.there | apply Rem.thereS)))).outs (List.Sublist.refl _))
      | (have hs9 : dsOk ws vs (y1, y2, y3) xs = false := by first | exact ds_no4 hm | exact ds_no1 (by assumption) | exact ds_no2 (by assumption) | exact ds_no3 (by omega) | exact ds_no4 (ds_notfin (i := i) (j := j) (by omega) (by omega) (by assumption))
         rw [dsX_no hs9, dsW_no hs9, dsG_no hs9, hs9]
         exact ⟨(((none, 0), fun _ => (none, 0)), (none, 0), (none, 0)), rfl, hw.below, by simp [fl, hd, rents, Ent.at], by simp [fl, hd, rents, Ent.apart]⟩)
  · skip
    replace h1 := bnot_f h1
    refine VL.r (.inr ⟨_, _, _, rfl, rfl, rfl⟩) rfl (by decide) (yr_move rfl rfl) ?_
    refine VL.q (.inr ⟨_, _, _, rfl, rfl, rfl⟩) rfl (by decide) (yq_callf rfl known81_Dsn (.cons rfl .nil) (fun w hw => (c_l07Points (by first | exact Sees.root (by assumption) w hw | exact Sees.own (by repeat (first | exact List.mem_cons_self | exact List.mem_append_left _ (by assumption) | apply List.mem_cons_of_mem | apply List.mem_append_right)) w hw) (by omega)))) ?_
    refine VL.r (.inr ⟨_, _, _, rfl, rfl, rfl⟩) rfl (by decide) (yr_not rfl rfl) ?_
    refine VL.r (.inl rfl) rfl (by decide) (yr_pick_f rfl rfl rfl) ?_
    refine VL.r (.inl rfl) rfl (by decide) (yr_move rfl rfl) ?_
    refine VX.split 23 _ rfl (fun h3 => ?_) (fun h3 => ?_)
    · skip
      replace h3 := bnot_t h3
      refine VL.no rfl rfl rfl rfl rfl (by decide) ?_
      refine VL.no rfl rfl rfl rfl rfl (by decide) ?_
      refine VL.no rfl rfl rfl rfl rfl (by decide) ?_
      refine VL.no rfl rfl rfl rfl rfl (by decide) ?_
      refine VL.no rfl rfl rfl rfl rfl (by decide) ?_
      refine VL.r (.inl rfl) rfl (by decide) (yr_pick_t (u := .bool true) rfl rfl rfl) ?_
      refine VL.nil ?_
      refine VE.then_wp ?_
      refine V.condT rfl ?_
      refine V.seq ?_
      refine V.region ?_
      refine VL.r (.inl rfl) rfl (by decide) (yr_build rfl lay77_Dsn rfl .nil (by first | (simp; done) | (simp [vv]; done) | (simp [cn, cn1, cn0]; done)) rfl) ?_
      refine VL.s (.inl rfl) rfl (yc_store rfl sz77_Dsn rfl rfl (by repeat (first | exact UpdF.here | apply UpdF.there | apply UpdF.thereS)) (.inr ⟨rfl, rfl⟩) rfl (by first | exact Nat.le_of_ble_eq_true rfl | simp) (by decide) rfl) ?_
      rintro ⟨⟩
      refine VL.r (.inl rfl) rfl (by decide) (yr_assign (u := .bool false) rfl rfl) ?_
      refine VL.nil ?_
      refine VE.then_wp ?_
      refine V.ret ?_
      refine VE.then_ret ?_
      refine retN rfl (.cons (rv_cellS rfl Try.underlying77 sz77_Dsn (by first | exact Sees.root (by assumption) | exact Sees.own (by repeat (first | exact List.mem_cons_self | exact List.mem_append_left _ (by assumption) | apply List.mem_cons_of_mem | apply List.mem_append_right)) | exact Sees.root (hR _ (by omega)) | exact Sees.own (RowsIn.mem (by repeat (first | exact RowsIn.here | exact RowsIn.last | apply RowsIn.there | apply RowsIn.thereS)) _ (by omega)) | exact Sees.own (WRowsIn.mem (by repeat (first | exact WRowsIn.here | exact WRowsIn.last | apply WRowsIn.there | apply WRowsIn.thereS)) _ (by omega))) rfl rfl rfl) (.cons (rv_tmp rfl (by nofun)) .nil)) (by nofun) (fun w1 hw => ?_)
      first
        | (have hs9 := ds_yes (ws := ws) (vs := vs) (way := (y1, y2, y3)) (xs := xs) (by assumption) (by assumption) (by assumption) hm
           rw [dsX_yes hs9, dsW_yes hs9, dsG_yes hs9, hs9]
           refine ⟨(((ar, cr), g), (a33, c33), (ag, cg)), by rw [dX_length, dG_length] <;> rfl, ?_⟩
           exact (hw.pick (by apply Pick.four; all_goals (repeat (first | exact Rem.here | exact Rem.all | exact Rem.hereS | apply Rem.there | apply Rem.thereS)))).outs (List.Sublist.refl _))
        | (have hs9 : dsOk ws vs (y1, y2, y3) xs = false := by first | exact ds_no4 hm | exact ds_no1 (by assumption) | exact ds_no2 (by assumption) | exact ds_no3 (by omega) | exact ds_no4 (ds_notfin (i := i) (j := j) (by omega) (by omega) (by assumption))
           rw [dsX_no hs9, dsW_no hs9, dsG_no hs9, hs9]
           exact ⟨(((none, 0), fun _ => (none, 0)), (none, 0), (none, 0)), rfl, hw.below, by simp [fl, hd, rents, Ent.at], by simp [fl, hd, rents, Ent.apart]⟩)
    · skip
      replace h3 := bnot_f h3
      refine VL.r (.inr ⟨_, _, _, rfl, rfl, rfl⟩) rfl (by decide) (yr_move rfl rfl) ?_
      refine VL.r (.inr ⟨_, _, _, rfl, rfl, rfl⟩) rfl (by decide) (yr_len rfl Try.underlying24 rfl) ?_
      refine VL.r (.inr ⟨_, _, _, rfl, rfl, rfl⟩) rfl (by decide) (yr_move rfl rfl) ?_
      refine VL.r (.inr ⟨_, _, _, rfl, rfl, rfl⟩) rfl (by decide) (yr_len rfl Try.underlying51 rfl) ?_
      refine VL.r (.inr ⟨_, _, _, rfl, rfl, rfl⟩) rfl (by decide) (yr_icmp rfl (.inr (.inl rfl)) rfl rfl) ?_
      refine VL.r (.inl rfl) rfl (by decide) (yr_pick_f rfl rfl rfl) ?_
      refine VL.nil ?_
      refine VE.then_wp ?_
      refine V.cond rfl (fun h5 => ?_) (fun h5 => ?_)
      · skip
        replace h5 := ic_neq h5
        refine V.seq ?_
        refine V.region ?_
        refine VL.r (.inl rfl) rfl (by decide) (yr_build rfl lay77_Dsn rfl .nil (by first | (simp; done) | (simp [vv]; done) | (simp [cn, cn1, cn0]; done)) rfl) ?_
        refine VL.s (.inl rfl) rfl (yc_store rfl sz77_Dsn rfl rfl (by repeat (first | exact UpdF.here | apply UpdF.there | apply UpdF.thereS)) (.inr ⟨rfl, rfl⟩) rfl (by first | exact Nat.le_of_ble_eq_true rfl | simp) (by decide) rfl) ?_
        rintro ⟨⟩
        refine VL.r (.inl rfl) rfl (by decide) (yr_assign (u := .bool false) rfl rfl) ?_
        refine VL.nil ?_
        refine VE.then_wp ?_
        refine V.ret ?_
        refine VE.then_ret ?_
        refine retN rfl (.cons (rv_cellS rfl Try.underlying77 sz77_Dsn (by first | exact Sees.root (by assumption) | exact Sees.own (by repeat (first | exact List.mem_cons_self | exact List.mem_append_left _ (by assumption) | apply List.mem_cons_of_mem | apply List.mem_append_right)) | exact Sees.root (hR _ (by omega)) | exact Sees.own (RowsIn.mem (by repeat (first | exact RowsIn.here | exact RowsIn.last | apply RowsIn.there | apply RowsIn.thereS)) _ (by omega)) | exact Sees.own (WRowsIn.mem (by repeat (first | exact WRowsIn.here | exact WRowsIn.last | apply WRowsIn.there | apply WRowsIn.thereS)) _ (by omega))) rfl rfl rfl) (.cons (rv_tmp rfl (by nofun)) .nil)) (by nofun) (fun w1 hw => ?_)
        first
          | (have hs9 := ds_yes (ws := ws) (vs := vs) (way := (y1, y2, y3)) (xs := xs) (by assumption) (by assumption) (by assumption) hm
             rw [dsX_yes hs9, dsW_yes hs9, dsG_yes hs9, hs9]
             refine ⟨(((ar, cr), g), (a33, c33), (ag, cg)), by rw [dX_length, dG_length] <;> rfl, ?_⟩
             exact (hw.pick (by apply Pick.four; all_goals (repeat (first | exact Rem.here | exact Rem.all | exact Rem.hereS | apply Rem.there | apply Rem.thereS)))).outs (List.Sublist.refl _))
          | (have hs9 : dsOk ws vs (y1, y2, y3) xs = false := by first | exact ds_no4 hm | exact ds_no1 (by assumption) | exact ds_no2 (by assumption) | exact ds_no3 (by omega) | exact ds_no4 (ds_notfin (i := i) (j := j) (by omega) (by omega) (by assumption))
             rw [dsX_no hs9, dsW_no hs9, dsG_no hs9, hs9]
             exact ⟨(((none, 0), fun _ => (none, 0)), (none, 0), (none, 0)), rfl, hw.below, by simp [fl, hd, rents, Ent.at], by simp [fl, hd, rents, Ent.apart]⟩)
      · skip
        replace h5 := ic_neq' h5
        have hp9 := dpOk_is (vs := vs) (by assumption)
        have hpf := hp9.2
        have hdw9 := dwOk_is (ws := ws) (by assumption)
        have hv := hdw9.2
        have hdw : ws.length ≤ 8 ∧ ws.all wireOk = true := by have := hdw9.2; unfold wiresOk at this; rw [Bool.and_eq_true, decide_eq_true_eq] at this; exact this
        have hvl := fun (k : Nat) (hk : k < ws.length) => wire_len hv hk
        have hxl : xs.length = vs.length := by omega
        refine V.skip ?_
        refine VE.then_wp ?_
        refine V.seq ?_
        refine V.region ?_
        refine VL.new1 (.inl rfl) rfl (by decide) (yn_lit rfl Try.underlying24 elt43_Dsn rfl (by decide) .nil (by first | (simp; done) | (simp [cn, cn1, cn0]; done)) rfl rfl rfl) ?_
        intro b31
        refine VL.r (.inl rfl) rfl (by decide) (yr_move rfl rfl) ?_
        refine VL.c (.inl rfl) rfl (by decide) (yc_appendz 1 rfl rfl Try.underlying24 elt43_Dsn rfl rfl (by repeat (first | exact UpdF.here | apply UpdF.there | apply UpdF.thereS)) (by first | exact Sees.root (by assumption) | exact Sees.own (by repeat (first | exact List.mem_cons_self | exact List.mem_append_left _ (by assumption) | apply List.mem_cons_of_mem | apply List.mem_append_right)) | exact Sees.root (hR _ (by omega)) | exact Sees.own (RowsIn.mem (by repeat (first | exact RowsIn.here | exact RowsIn.last | apply RowsIn.there | apply RowsIn.thereS)) _ (by omega)) | exact Sees.own (WRowsIn.mem (by repeat (first | exact WRowsIn.here | exact WRowsIn.last | apply WRowsIn.there | apply WRowsIn.thereS)) _ (by omega))) rfl (by first | (simp; done) | (rw [fl_length]; omega) | (rw [fl_length, dRow_length, Nat.mul_one]) | (rw [fl_length, dG_length, Nat.mul_one]) | (rw [hd_length, List.length_take, dX_length]; omega)) (by first | rfl | (rw [fl_length]; omega)) (by first | rfl | exact fl_scal _ | exact hd_scal _ _) (by first | rfl | exact fl_scal _) (by omega) (by omega)) ?_
        rintro ⟨a33, c33⟩
        refine VL.r (.inl rfl) rfl (by decide) (yr_build rfl lay77_Dsn rfl (.cons rfl .nil) (by first | (simp; done) | (simp [vv]; done) | (simp [cn, cn1, cn0]; done)) rfl) ?_
        refine VL.new1 (.inl rfl) rfl (by decide) (yn_alloc rfl zero77_Dsn rfl) ?_
        intro b10
        refine VL.s (.inl rfl) rfl (yc_store rfl sz77_Dsn rfl rfl (by repeat (first | exact UpdF.here | apply UpdF.there | apply UpdF.thereS)) (.inr ⟨rfl, rfl⟩) rfl (by first | exact Nat.le_of_ble_eq_true rfl | simp) (by decide) rfl) ?_
        rintro ⟨⟩
        refine VL.nil ?_
        refine VE.then_wp ?_
        refine V.seq ?_
        refine V.seq ?_
        refine V.region ?_
        refine VL.r (.inl rfl) rfl (by decide) (yr_move rfl rfl) ?_
        refine VL.r (.inl rfl) rfl (by decide) (yr_len rfl Try.underlying51 rfl) ?_
        refine VL.r (.inl rfl) rfl (by decide) (yr_move (u := .int .i64 0) rfl rfl) ?_
        refine VL.nil ?_
        refine VE.then_wp ?_
        refine V.block ?_
        refine V.loopc (G := Nat × (Nat → Option Addr × Nat) × (Option Addr) × Nat × (Option Addr) × Nat) [(0, _), (1, _), (6, _), (8, _), (10, _), (36, _)] (fun ⟨i, g, ar, cr, ag, cg⟩ => i ≤ vs.length) (fun ⟨i, g, ar, cr, ag, cg⟩ => (⟨ar, hd g ((dX ws vs (y1, y2, y3)).take i), cr * 1, 24⟩ :: ⟨ag, fl (dG i), cg * 1, 43⟩ :: ⟨some ⟨b10, 0, none⟩, [.slice ar i cr, .slice a33 xs.length c33, .slice ag i cg], 3, 77⟩ :: ⟨a33, fl xs, c33 * 1, 43⟩ :: ⟨some ⟨b8, 0, none⟩, [.slice none 0 0, .slice none 0 0, .slice none 0 0], 3, 77⟩ :: ⟨some ⟨b6, 0, none⟩, [.float .f32 ((y1, y2, y3)).1, .float .f32 ((y1, y2, y3)).2.1, .float .f32 ((y1, y2, y3)).2.2], 3, 53⟩ :: rents 43 g ((dX ws vs (y1, y2, y3)).take i))) (fun ⟨i, g, ar, cr, ag, cg⟩ => [(37, .int .i64 (i : Int))]) (fun ⟨i, g, ar, cr, ag, cg⟩ => vs.length - i) (0, fun _ => (none, 0), none, 0, none, 0) (.cons rfl (.cons rfl (.cons rfl (.cons rfl (.cons rfl (.cons rfl .nil)))))) (.cons rfl .nil) ?_ ?_ ?_
        · exact (fun w1 hw => by
            have h9 := (hw.nil 43).nil 24
            try simp only [Nat.zero_add, List.nil_append] at h9
            exact h9)
        · exact (by omega)
        rintro ⟨i, g, ar, cr, ag, cg⟩ hi
        show V _ _ _ (⟨ar, hd g ((dX ws vs (y1, y2, y3)).take i), cr * 1, 24⟩ :: ⟨ag, fl (dG i), cg * 1, 43⟩ :: ⟨some ⟨b10, 0, none⟩, [.slice ar i cr, .slice a33 xs.length c33, .slice ag i cg], 3, 77⟩ :: ⟨a33, fl xs, c33 * 1, 43⟩ :: ⟨some ⟨b8, 0, none⟩, [.slice none 0 0, .slice none 0 0, .slice none 0 0], 3, 77⟩ :: ⟨some ⟨b6, 0, none⟩, [.float .f32 ((y1, y2, y3)).1, .float .f32 ((y1, y2, y3)).2.1, .float .f32 ((y1, y2, y3)).2.2], 3, 53⟩ :: rents 43 g ((dX ws vs (y1, y2, y3)).take i)) ([(37, .int .i64 (i : Int))] ++ [(0, _), (1, _), (6, _), (8, _), (10, _), (36, _)]) _ _
        refine V.seq ?_
        refine V.region ?_
        refine VL.r (.inl rfl) rfl (by decide) (yr_icmp rfl (.inr (.inr (.inl rfl))) rfl rfl) ?_
        refine VL.nil ?_
        refine VE.then_wp ?_
        refine V.seq ?_
        refine V.cond rfl (fun h6 => ?_) (fun h6 => ?_)
        · skip
          replace h6 := ic_lss h6
          refine V.skip ?_
          refine VE.then_wp ?_
          refine V.seq ?_
          refine V.block ?_
          refine V.seq ?_
          refine V.region ?_
          refine VL.r (.inl rfl) rfl (by decide) (yr_move rfl rfl) ?_
          refine VL.r (.inl rfl) rfl (by decide) (yr_assign rfl rfl) ?_
          refine VL.nil ?_
          refine VE.then_wp ?_
          refine V.seq ?_
          refine V.region ?_
          refine VL.new1 (.inl rfl) rfl (by decide) (yn_lit rfl Try.underlying24 elt43_Dsn rfl (by decide) .nil (by first | (simp; done) | (simp [cn, cn1, cn0]; done)) rfl rfl rfl) ?_
          intro b40
          refine VL.r (.inl rfl) rfl (by decide) (yr_assign rfl rfl) ?_
          refine VL.nil ?_
          refine VE.then_wp ?_
          refine V.seq ?_
          refine V.seq ?_
          refine V.region ?_
          refine VL.r (.inl rfl) rfl (by decide) (yr_move rfl rfl) ?_
          refine VL.r (.inl rfl) rfl (by decide) (yr_len rfl Try.underlying22 rfl) ?_
          refine VL.r (.inl rfl) rfl (by decide) (yr_move (u := .int .i64 0) rfl rfl) ?_
          refine VL.nil ?_
          refine VE.then_wp ?_
          refine V.block ?_
          refine V.loopc (G := Nat × (Option Addr) × Nat) [(0, _), (1, _), (6, _), (8, _), (10, _), (11, _), (36, _), (37, _), (42, _)] (fun ⟨j, ai, ci⟩ => j ≤ ws.length) (fun ⟨j, ai, ci⟩ => (⟨ai, fl (dRow ws (y1, y2, y3) (vs.getD i z3) j), ci * 1, 43⟩ :: (⟨ar, hd g ((dX ws vs (y1, y2, y3)).take i), cr * 1, 24⟩ :: ⟨ag, fl (dG i), cg * 1, 43⟩ :: ⟨some ⟨b10, 0, none⟩, [.slice ar i cr, .slice a33 xs.length c33, .slice ag i cg], 3, 77⟩ :: ⟨a33, fl xs, c33 * 1, 43⟩ :: ⟨some ⟨b8, 0, none⟩, [.slice none 0 0, .slice none 0 0, .slice none 0 0], 3, 77⟩ :: ⟨some ⟨b6, 0, none⟩, [.float .f32 ((y1, y2, y3)).1, .float .f32 ((y1, y2, y3)).2.1, .float .f32 ((y1, y2, y3)).2.2], 3, 53⟩ :: rents 43 g ((dX ws vs (y1, y2, y3)).take i)))) (fun ⟨j, ai, ci⟩ => [(12, .slice ai j ci), (43, .int .i64 (j : Int))]) (fun ⟨j, ai, ci⟩ => ws.length - j) (0, some ⟨b40, 0, none⟩, 0) (.cons rfl (.cons rfl (.cons rfl (.cons rfl (.cons rfl (.cons rfl (.cons rfl (.cons rfl (.cons rfl .nil))))))))) (.cons rfl (.cons rfl .nil)) ?_ ?_ ?_
          · exact (fun w1 hw => hw)
          · exact (by omega)
          rintro ⟨j, ai, ci⟩ hj
          show V _ _ _ (⟨ai, fl (dRow ws (y1, y2, y3) (vs.getD i z3) j), ci * 1, 43⟩ :: (⟨ar, hd g ((dX ws vs (y1, y2, y3)).take i), cr * 1, 24⟩ :: ⟨ag, fl (dG i), cg * 1, 43⟩ :: ⟨some ⟨b10, 0, none⟩, [.slice ar i cr, .slice a33 xs.length c33, .slice ag i cg], 3, 77⟩ :: ⟨a33, fl xs, c33 * 1, 43⟩ :: ⟨some ⟨b8, 0, none⟩, [.slice none 0 0, .slice none 0 0, .slice none 0 0], 3, 77⟩ :: ⟨some ⟨b6, 0, none⟩, [.float .f32 ((y1, y2, y3)).1, .float .f32 ((y1, y2, y3)).2.1, .float .f32 ((y1, y2, y3)).2.2], 3, 53⟩ :: rents 43 g ((dX ws vs (y1, y2, y3)).take i))) ([(12, .slice ai j ci), (43, .int .i64 (j : Int))] ++ [(0, _), (1, _), (6, _), (8, _), (10, _), (11, _), (36, _), (37, _), (42, _)]) _ _
          have hwj := fun (h : j < ws.length) => wall_getD.1 hdw.2 j h
          refine V.seq ?_
          refine V.region ?_
          refine VL.r (.inl rfl) rfl (by decide) (yr_icmp rfl (.inr (.inr (.inl rfl))) rfl rfl) ?_
          refine VL.nil ?_
          refine VE.then_wp ?_
          refine V.seq ?_
          refine V.cond rfl (fun h7 => ?_) (fun h7 => ?_)
          · skip
            replace h7 := ic_lss h7
            refine V.skip ?_
            refine VE.then_wp ?_
            refine V.seq ?_
            refine V.block ?_
            refine V.seq ?_
            refine V.region ?_
            refine VL.r (.inl rfl) rfl (by decide) (yr_move rfl rfl) ?_
            refine VL.r (.inl rfl) rfl (by decide) (yr_assign rfl rfl) ?_
            refine VL.nil ?_
            refine VE.then_wp ?_
            refine V.seq ?_
            refine V.region ?_
            refine VL.r (.inl rfl) rfl (by decide) (yr_move rfl rfl) ?_
            refine VL.r (.inl rfl) rfl (by decide) (yr_move rfl rfl) ?_
            refine VL.q (.inl rfl) rfl (by decide) (yq_idxN (k := j) rfl Try.underlying22 sz122_Dsn rfl rfl (by first | exact Sees.root (by assumption) | exact Sees.own (by repeat (first | exact List.mem_cons_self | exact List.mem_append_left _ (by assumption) | apply List.mem_cons_of_mem | apply List.mem_append_right)) | exact Sees.root (hR _ (by omega)) | exact Sees.own (RowsIn.mem (by repeat (first | exact RowsIn.here | exact RowsIn.last | apply RowsIn.there | apply RowsIn.thereS)) _ (by omega)) | exact Sees.own (WRowsIn.mem (by repeat (first | exact WRowsIn.here | exact WRowsIn.last | apply WRowsIn.there | apply WRowsIn.thereS)) _ (by omega))) (by first | rfl | omega | (push_cast; rfl) | (push_cast; omega) | exact tmod_nat _ _) (by first | exact vl_length _ | exact whd_length _ _) (by decide) (by omega)) ?_
            refine VL.q (.inl rfl) rfl (by decide) (yq_loadW rfl Try.underlying122 sz122_Dsn rfl (by first | exact Sees.root (by assumption) | exact Sees.own (by repeat (first | exact List.mem_cons_self | exact List.mem_append_left _ (by assumption) | apply List.mem_cons_of_mem | apply List.mem_append_right)) | exact Sees.root (hR _ (by omega)) | exact Sees.own (RowsIn.mem (by repeat (first | exact RowsIn.here | exact RowsIn.last | apply RowsIn.there | apply RowsIn.thereS)) _ (by omega)) | exact Sees.own (WRowsIn.mem (by repeat (first | exact WRowsIn.here | exact WRowsIn.last | apply WRowsIn.there | apply WRowsIn.thereS)) _ (by omega))) (by omega)) ?_
            refine VL.new1 (.inl rfl) rfl (by decide) (yn_alloc rfl zero122_Dsn rfl) ?_
            intro b14
            refine VL.s (.inl rfl) rfl (yc_store rfl sz122_Dsn rfl rfl (by repeat (first | exact UpdF.here | apply UpdF.there | apply UpdF.thereS)) (.inr ⟨rfl, rfl⟩) rfl (by first | exact Nat.le_of_ble_eq_true rfl | simp) (by decide) rfl) ?_
            rintro ⟨⟩
            refine VL.nil ?_
            refine VE.then_wp ?_
            refine V.seq ?_
            refine V.region ?_
            refine VL.r (.inl rfl) rfl (by decide) (yr_fieldAddr rfl Try.underlying122 rfl rfl sz43_Dsn (by decide) rfl) ?_
            refine VL.s (.inl rfl) rfl (yc_store rfl sz43_Dsn rfl rfl (by repeat (first | exact UpdF.here | apply UpdF.there | apply UpdF.thereS)) (.inl ⟨rfl, rfl⟩) rfl (by first | exact Nat.le_of_ble_eq_true rfl | simp) (by decide) rfl) ?_
            rintro ⟨⟩
            refine VL.nil ?_
            refine VE.then_wp ?_
            refine V.draw [(0, 0), (1, 0), (2, 0), (3, 0), (4, 0), (5, 0), (6, 0), (7, 0), (8, 1), (9, 3), (10, 0)] mixed_Dsn (by kernel_rfl) (by intro j o hj; simp at hj) ?_
            refine SW.r rfl (.inl rfl) rfl (by decide) (yr_move rfl rfl) ?_
            refine SW.r rfl (.inl rfl) rfl (by decide) (yr_move rfl rfl) ?_
            refine SW.r rfl (.inl rfl) rfl (by decide) (yr_move rfl rfl) ?_
            refine SW.q rfl (.inl rfl) rfl (by decide) (yq_idxN (k := i) rfl Try.underlying51 sz53_Dsn rfl rfl (by first | exact Sees.root (by assumption) | exact Sees.own (by repeat (first | exact List.mem_cons_self | exact List.mem_append_left _ (by assumption) | apply List.mem_cons_of_mem | apply List.mem_append_right)) | exact Sees.root (hR _ (by omega)) | exact Sees.own (RowsIn.mem (by repeat (first | exact RowsIn.here | exact RowsIn.last | apply RowsIn.there | apply RowsIn.thereS)) _ (by omega)) | exact Sees.own (WRowsIn.mem (by repeat (first | exact WRowsIn.here | exact WRowsIn.last | apply WRowsIn.there | apply WRowsIn.thereS)) _ (by omega))) (by first | rfl | omega | (push_cast; rfl) | (push_cast; omega) | exact tmod_nat _ _) (by first | exact vl_length _ | exact whd_length _ _) (by decide) (by omega)) ?_
            refine SW.q rfl (.inl rfl) rfl (by decide) (yq_loadV rfl Try.underlying53 sz53_Dsn rfl (by first | exact Sees.root (by assumption) | exact Sees.own (by repeat (first | exact List.mem_cons_self | exact List.mem_append_left _ (by assumption) | apply List.mem_cons_of_mem | apply List.mem_append_right)) | exact Sees.root (hR _ (by omega)) | exact Sees.own (RowsIn.mem (by repeat (first | exact RowsIn.here | exact RowsIn.last | apply RowsIn.there | apply RowsIn.thereS)) _ (by omega)) | exact Sees.own (WRowsIn.mem (by repeat (first | exact WRowsIn.here | exact WRowsIn.last | apply WRowsIn.there | apply WRowsIn.thereS)) _ (by omega))) (by omega)) ?_
            refine SW.q rfl (.inl rfl) rfl (by decide) (yq_callf rfl known107_Dsn (.cons rfl (.cons rfl .nil)) (fun w hw => (c_l02Field (q := some ⟨b14, 0, none⟩) (o := 0) (all := [.slice (f j).1 (ws.getD j zw).1.length (f j).2, .bool (ws.getD j zw).2.1, .float .f32 1065353216]) (ps := (ws.getD j zw).1) (cl := (ws.getD j zw).2.1) (cur := 1065353216) (by first | exact Sees.root (by assumption) w hw | exact Sees.own (by repeat (first | exact List.mem_cons_self | exact List.mem_append_left _ (by assumption) | apply List.mem_cons_of_mem | apply List.mem_append_right)) w hw) rfl rfl rfl (hR.root hw j (by omega)) (hvl j (by omega)).1 (hvl j (by omega)).2))) ?_
            refine SW.q rfl (.inl rfl) rfl (by decide) (yq_loadS rfl Try.underlying53 sz53_Dsn rfl (by first | exact Sees.root (by assumption) | exact Sees.own (by repeat (first | exact List.mem_cons_self | exact List.mem_append_left _ (by assumption) | apply List.mem_cons_of_mem | apply List.mem_append_right)) | exact Sees.root (hR _ (by omega)) | exact Sees.own (RowsIn.mem (by repeat (first | exact RowsIn.here | exact RowsIn.last | apply RowsIn.there | apply RowsIn.thereS)) _ (by omega)) | exact Sees.own (WRowsIn.mem (by repeat (first | exact WRowsIn.here | exact WRowsIn.last | apply WRowsIn.there | apply WRowsIn.thereS)) _ (by omega))) rfl rfl rfl) ?_
            refine SW.q rfl (.inl rfl) rfl (by decide) (yq_callf rfl known83_Dsn (.cons rfl (.cons rfl .nil)) (fun w hw => c_inner3S)) ?_
            refine SW.new1 rfl (.inl rfl) rfl (by decide) (yn_lit rfl Try.underlying24 elt43_Dsn rfl (by decide) (.cons rfl .nil) (by first | (simp; done) | (simp [cn, cn1, cn0]; done)) rfl rfl rfl) ?_
            intro b59
            refine SW.c rfl (.inl rfl) rfl (by decide) (yc_appendz 1 rfl rfl Try.underlying24 elt43_Dsn rfl rfl (by repeat (first | exact UpdF.here | apply UpdF.there | apply UpdF.thereS)) (by first | exact Sees.root (by assumption) | exact Sees.own (by repeat (first | exact List.mem_cons_self | exact List.mem_append_left _ (by assumption) | apply List.mem_cons_of_mem | apply List.mem_append_right)) | exact Sees.root (hR _ (by omega)) | exact Sees.own (RowsIn.mem (by repeat (first | exact RowsIn.here | exact RowsIn.last | apply RowsIn.there | apply RowsIn.thereS)) _ (by omega)) | exact Sees.own (WRowsIn.mem (by repeat (first | exact WRowsIn.here | exact WRowsIn.last | apply WRowsIn.there | apply WRowsIn.thereS)) _ (by omega))) rfl (by first | (simp; done) | (rw [fl_length]; omega) | (rw [fl_length, dRow_length, Nat.mul_one]) | (rw [fl_length, dG_length, Nat.mul_one]) | (rw [hd_length, List.length_take, dX_length]; omega)) (by first | rfl | (rw [fl_length]; omega)) (by first | rfl | exact fl_scal _ | exact hd_scal _ _) (by first | rfl | exact fl_scal _) (by omega) (by omega)) ?_
            rintro ⟨a60, c60⟩
            refine SW.r rfl (.inl rfl) rfl (by decide) (yr_assign rfl rfl) ?_
            refine SW.done ?_
            refine VE.block_normal ?_
            refine VE.then_wp ?_
            refine V.region ?_
            refine VL.r (.inl rfl) rfl (by decide) (yr_int rfl rfl rfl (.inl ⟨rfl, wrap_in (by omega)⟩)) ?_
            refine VL.r (.inl rfl) rfl (by decide) (yr_move rfl rfl) ?_
            refine VL.nil ?_
            refine VE.round (j + 1, a60, c60) ?_ ?_ ?_ ?_ ?_
            · exact (.cons rfl (.cons rfl .nil))
            · exact (.cons rfl (.cons rfl (.cons rfl (.cons rfl (.cons rfl (.cons rfl (.cons rfl (.cons rfl (.cons rfl .nil)))))))))
            · exact (fun w1 hw => by
                have h9 := hw.sub (List.Sublist.trans (List.sublist_cons_self _ _) (List.sublist_cons_self _ _))
                dsimp only
                rw [← dRow_flS]
                exact h9)
            · omega
            · (try dsimp only); omega
          · skip
            replace h7 := ic_lss' h7
            obtain rfl : j = ws.length := by omega
            refine V.exit ?_
            refine VE.then_exit ?_
            refine VE.then_exit ?_
            refine VE.block_here ?_
            refine VE.then_wp ?_
            refine V.seq ?_
            refine V.region ?_
            refine VL.r (.inl rfl) rfl (by decide) (yr_fieldAddr rfl Try.underlying77 rfl rfl sz75_Dsn (by decide) rfl) ?_
            refine VL.q (.inl rfl) rfl (by decide) (yq_load rfl fb75_Dsn rfl (by first | exact Sees.root (by assumption) | exact Sees.own (by repeat (first | exact List.mem_cons_self | exact List.mem_append_left _ (by assumption) | apply List.mem_cons_of_mem | apply List.mem_append_right)) | exact Sees.root (hR _ (by omega)) | exact Sees.own (RowsIn.mem (by repeat (first | exact RowsIn.here | exact RowsIn.last | apply RowsIn.there | apply RowsIn.thereS)) _ (by omega)) | exact Sees.own (WRowsIn.mem (by repeat (first | exact WRowsIn.here | exact WRowsIn.last | apply WRowsIn.there | apply WRowsIn.thereS)) _ (by omega))) rfl) ?_
            refine VL.r (.inl rfl) rfl (by decide) (yr_move rfl rfl) ?_
            refine VL.new1 (.inl rfl) rfl (by decide) (yn_lit rfl Try.underlying75 elt24_Dsn rfl (by decide) (.cons rfl .nil) (by first | (simp; done) | (simp [cn, cn1, cn0]; done)) rfl rfl rfl) ?_
            intro b65
            refine VL.c (.inl rfl) rfl (by decide) (yc_appendz 1 rfl rfl Try.underlying75 elt24_Dsn rfl rfl (by repeat (first | exact UpdF.here | apply UpdF.there | apply UpdF.thereS)) (by first | exact Sees.root (by assumption) | exact Sees.own (by repeat (first | exact List.mem_cons_self | exact List.mem_append_left _ (by assumption) | apply List.mem_cons_of_mem | apply List.mem_append_right)) | exact Sees.root (hR _ (by omega)) | exact Sees.own (RowsIn.mem (by repeat (first | exact RowsIn.here | exact RowsIn.last | apply RowsIn.there | apply RowsIn.thereS)) _ (by omega)) | exact Sees.own (WRowsIn.mem (by repeat (first | exact WRowsIn.here | exact WRowsIn.last | apply WRowsIn.there | apply WRowsIn.thereS)) _ (by omega))) rfl (by first | (simp; done) | (rw [fl_length]; omega) | (rw [fl_length, dRow_length, Nat.mul_one]) | (rw [fl_length, dG_length, Nat.mul_one]) | (rw [hd_length, List.length_take, dX_length]; omega)) (by first | rfl | (rw [fl_length]; omega)) (by first | rfl | exact fl_scal _ | exact hd_scal _ _) (by first | rfl | exact fl_scal _) (by omega) (by omega)) ?_
            rintro ⟨a66, c66⟩
            refine VL.r (.inl rfl) rfl (by decide) (yr_fieldAddr rfl Try.underlying77 rfl rfl sz75_Dsn (by decide) rfl) ?_
            refine VL.s (.inl rfl) rfl (yc_store rfl sz75_Dsn rfl rfl (by repeat (first | exact UpdF.here | apply UpdF.there | apply UpdF.thereS)) (.inl ⟨rfl, rfl⟩) rfl (by first | exact Nat.le_of_ble_eq_true rfl | simp) (by decide) rfl) ?_
            rintro ⟨⟩
            refine VL.nil ?_
            refine VE.then_wp ?_
            refine V.region ?_
            refine VL.r (.inl rfl) rfl (by decide) (yr_fieldAddr rfl Try.underlying77 rfl rfl sz24_Dsn (by decide) rfl) ?_
            refine VL.q (.inl rfl) rfl (by decide) (yq_load rfl fb24_Dsn rfl (by first | exact Sees.root (by assumption) | exact Sees.own (by repeat (first | exact List.mem_cons_self | exact List.mem_append_left _ (by assumption) | apply List.mem_cons_of_mem | apply List.mem_append_right)) | exact Sees.root (hR _ (by omega)) | exact Sees.own (RowsIn.mem (by repeat (first | exact RowsIn.here | exact RowsIn.last | apply RowsIn.there | apply RowsIn.thereS)) _ (by omega)) | exact Sees.own (WRowsIn.mem (by repeat (first | exact WRowsIn.here | exact WRowsIn.last | apply WRowsIn.there | apply WRowsIn.thereS)) _ (by omega))) rfl) ?_
            refine VL.new1 (.inl rfl) rfl (by decide) (yn_lit rfl Try.underlying24 elt43_Dsn rfl (by decide) (.cons rfl .nil) (by first | (simp; done) | (simp [cn, cn1, cn0]; done)) rfl rfl rfl) ?_
            intro b70
            refine VL.c (.inl rfl) rfl (by decide) (yc_appendz 1 rfl rfl Try.underlying24 elt43_Dsn rfl rfl (by repeat (first | exact UpdF.here | apply UpdF.there | apply UpdF.thereS)) (by first | exact Sees.root (by assumption) | exact Sees.own (by repeat (first | exact List.mem_cons_self | exact List.mem_append_left _ (by assumption) | apply List.mem_cons_of_mem | apply List.mem_append_right)) | exact Sees.root (hR _ (by omega)) | exact Sees.own (RowsIn.mem (by repeat (first | exact RowsIn.here | exact RowsIn.last | apply RowsIn.there | apply RowsIn.thereS)) _ (by omega)) | exact Sees.own (WRowsIn.mem (by repeat (first | exact WRowsIn.here | exact WRowsIn.last | apply WRowsIn.there | apply WRowsIn.thereS)) _ (by omega))) rfl (by first | (simp; done) | (rw [fl_length]; omega) | (rw [fl_length, dRow_length, Nat.mul_one]) | (rw [fl_length, dG_length, Nat.mul_one]) | (rw [hd_length, List.length_take, dX_length]; omega)) (by first | rfl | (rw [fl_length]; omega)) (by first | rfl | exact fl_scal _ | exact hd_scal _ _) (by first | rfl | exact fl_scal _) (by omega) (by omega)) ?_
            rintro ⟨a71, c71⟩
            refine VL.r (.inl rfl) rfl (by decide) (yr_fieldAddr rfl Try.underlying77 rfl rfl sz24_Dsn (by decide) rfl) ?_
            refine VL.s (.inl rfl) rfl (yc_store rfl sz24_Dsn rfl rfl (by repeat (first | exact UpdF.here | apply UpdF.there | apply UpdF.thereS)) (.inl ⟨rfl, rfl⟩) rfl (by first | exact Nat.le_of_ble_eq_true rfl | simp) (by decide) rfl) ?_
            rintro ⟨⟩
            refine VL.nil ?_
            refine VE.block_normal ?_
            refine VE.then_wp ?_
            refine V.region ?_
            refine VL.r (.inl rfl) rfl (by decide) (yr_int rfl rfl rfl (.inl ⟨rfl, wrap_in (by omega)⟩)) ?_
            refine VL.r (.inl rfl) rfl (by decide) (yr_move rfl rfl) ?_
            refine VL.nil ?_
            refine VE.round (i + 1, upd g i (ai, ci), a66, c66, a71, c71) ?_ ?_ ?_ ?_ ?_
            · exact (.cons rfl .nil)
            · exact (.cons rfl (.cons rfl (.cons rfl (.cons rfl (.cons rfl (.cons rfl .nil))))))
            · exact (fun w1 hw => by
                have h9 := hw.sub ((List.sublist_cons_self _ _).trans (List.sublist_cons_self _ _))
                dsimp only
                refine Hp.snocRow (A := [_, _, _, _, _, _]) (k := i) (by rw [dX_length]; omega) (ai, ci) ?_
                rw [dX_get (by omega), ← hd_dX (by omega), ← dG_fl]
                exact h9)
            · omega
            · (try dsimp only); omega
        · skip
          replace h6 := ic_lss' h6
          obtain rfl : i = vs.length := by omega
          have hbx := bulk_dX (ws := ws) (vs := vs) (way := (y1, y2, y3)) (by assumption) (by assumption)
          refine VX.own (O' := (⟨ar, hd g ((dX ws vs (y1, y2, y3))), cr * 1, 24⟩ :: ⟨ag, fl (dG vs.length), cg * 1, 43⟩ :: ⟨some ⟨b10, 0, none⟩, [.slice ar vs.length cr, .slice a33 xs.length c33, .slice ag vs.length cg], 3, 77⟩ :: ⟨a33, fl xs, c33 * 1, 43⟩ :: ⟨some ⟨b8, 0, none⟩, [.slice none 0 0, .slice none 0 0, .slice none 0 0], 3, 77⟩ :: ⟨some ⟨b6, 0, none⟩, [.float .f32 ((y1, y2, y3)).1, .float .f32 ((y1, y2, y3)).2.1, .float .f32 ((y1, y2, y3)).2.2], 3, 53⟩ :: rents 43 g ((dX ws vs (y1, y2, y3))))) (fun w1 hw => by rw [dX_take] at hw; exact hw) ?_
          refine V.exit ?_
          refine VE.then_exit ?_
          refine VE.then_exit ?_
          refine VE.block_here ?_
          refine VE.then_wp ?_
          refine V.seq ?_
          refine V.region ?_
          refine VL.q (.inl rfl) rfl (by decide) (yq_loadS rfl Try.underlying77 sz77_Dsn rfl (by first | exact Sees.root (by assumption) | exact Sees.own (by repeat (first | exact List.mem_cons_self | exact List.mem_append_left _ (by assumption) | apply List.mem_cons_of_mem | apply List.mem_append_right)) | exact Sees.root (hR _ (by omega)) | exact Sees.own (RowsIn.mem (by repeat (first | exact RowsIn.here | exact RowsIn.last | apply RowsIn.there | apply RowsIn.thereS)) _ (by omega)) | exact Sees.own (WRowsIn.mem (by repeat (first | exact WRowsIn.here | exact WRowsIn.last | apply WRowsIn.there | apply WRowsIn.thereS)) _ (by omega))) rfl rfl rfl) ?_
          rcases Bool.eq_false_or_eq_true (validD (dX ws vs (y1, y2, y3)) xs (dG vs.length)) with hm | hm
          · skip
            refine VL.q (.inl rfl) rfl (by decide) (yq_callf rfl known108_Dsn (.cons rfl .nil) (fun w hw => (c_giveY (f := g) (xss := (dX ws vs (y1, y2, y3))) (ws := xs) (gs := dG vs.length) (by rw [dX_length]) rfl (by rw [dG_length]) (by first | exact Sees.root (by assumption) w hw | exact Sees.own (by repeat (first | exact List.mem_cons_self | exact List.mem_append_left _ (by assumption) | apply List.mem_cons_of_mem | apply List.mem_append_right)) w hw) (by first | exact Rws.root (by assumption) hw | exact Rws.own (by repeat (first | exact RowsIn.here | exact RowsIn.last | apply RowsIn.there | apply RowsIn.thereS)) hw) (by first | exact Sees.root (by assumption) w hw | exact Sees.own (by repeat (first | exact List.mem_cons_self | exact List.mem_append_left _ (by assumption) | apply List.mem_cons_of_mem | apply List.mem_append_right)) w hw) (by first | exact Sees.root (by assumption) w hw | exact Sees.own (by repeat (first | exact List.mem_cons_self | exact List.mem_append_left _ (by assumption) | apply List.mem_cons_of_mem | apply List.mem_append_right)) w hw) (by rw [dG_length]; omega) hm))) ?_
            refine VL.r (.inl rfl) rfl (by decide) (yr_extract rfl rfl rfl (by nofun)) ?_
            refine VL.r (.inl rfl) rfl (by decide) (yr_extract rfl rfl rfl (by nofun)) ?_
            refine VL.s (.inl rfl) rfl (yc_store rfl sz77_Dsn rfl rfl (by repeat (first | exact UpdF.here | apply UpdF.there | apply UpdF.thereS)) (.inr ⟨rfl, rfl⟩) rfl (by first | exact Nat.le_of_ble_eq_true rfl | simp) (by decide) rfl) ?_
            rintro ⟨⟩
            refine VL.r (.inl rfl) rfl (by decide) (yr_assign rfl rfl) ?_
            refine VL.nil ?_
            refine VE.then_wp ?_
            refine V.ret ?_
            refine retN rfl (.cons (rv_cellS rfl Try.underlying77 sz77_Dsn (by first | exact Sees.root (by assumption) | exact Sees.own (by repeat (first | exact List.mem_cons_self | exact List.mem_append_left _ (by assumption) | apply List.mem_cons_of_mem | apply List.mem_append_right)) | exact Sees.root (hR _ (by omega)) | exact Sees.own (RowsIn.mem (by repeat (first | exact RowsIn.here | exact RowsIn.last | apply RowsIn.there | apply RowsIn.thereS)) _ (by omega)) | exact Sees.own (WRowsIn.mem (by repeat (first | exact WRowsIn.here | exact WRowsIn.last | apply WRowsIn.there | apply WRowsIn.thereS)) _ (by omega))) rfl rfl rfl) (.cons (rv_tmp rfl (by nofun)) .nil)) (by nofun) (fun w1 hw => ?_)
            first
              | (have hs9 := ds_yes (ws := ws) (vs := vs) (way := (y1, y2, y3)) (xs := xs) (by assumption) (by assumption) (by assumption) hm
                 rw [dsX_yes hs9, dsW_yes hs9, dsG_yes hs9, hs9]
                 refine ⟨(((ar, cr), g), (a33, c33), (ag, cg)), by rw [dX_length, dG_length] <;> rfl, ?_⟩
                 exact (hw.pick (by apply Pick.four; all_goals (repeat (first | exact Rem.here | exact Rem.all | exact Rem.hereS | apply Rem.there | apply Rem.thereS)))).outs (List.Sublist.refl _))
              | (have hs9 : dsOk ws vs (y1, y2, y3) xs = false := by first | exact ds_no4 hm | exact ds_no1 (by assumption) | exact ds_no2 (by assumption) | exact ds_no3 (by omega) | exact ds_no4 (ds_notfin (i := i) (j := j) (by omega) (by omega) (by assumption))
                 rw [dsX_no hs9, dsW_no hs9, dsG_no hs9, hs9]
                 exact ⟨(((none, 0), fun _ => (none, 0)), (none, 0), (none, 0)), rfl, hw.below, by simp [fl, hd, rents, Ent.at], by simp [fl, hd, rents, Ent.apart]⟩)
          · skip
            refine VL.q (.inl rfl) rfl (by decide) (yq_callf rfl known108_Dsn (.cons rfl .nil) (fun w hw => (c_giveN (f := g) (xss := (dX ws vs (y1, y2, y3))) (ws := xs) (gs := dG vs.length) (by rw [dX_length]) rfl (by rw [dG_length]) (by first | exact Sees.root (by assumption) w hw | exact Sees.own (by repeat (first | exact List.mem_cons_self | exact List.mem_append_left _ (by assumption) | apply List.mem_cons_of_mem | apply List.mem_append_right)) w hw) (by first | exact Rws.root (by assumption) hw | exact Rws.own (by repeat (first | exact RowsIn.here | exact RowsIn.last | apply RowsIn.there | apply RowsIn.thereS)) hw) (by first | exact Sees.root (by assumption) w hw | exact Sees.own (by repeat (first | exact List.mem_cons_self | exact List.mem_append_left _ (by assumption) | apply List.mem_cons_of_mem | apply List.mem_append_right)) w hw) (by first | exact Sees.root (by assumption) w hw | exact Sees.own (by repeat (first | exact List.mem_cons_self | exact List.mem_append_left _ (by assumption) | apply List.mem_cons_of_mem | apply List.mem_append_right)) w hw) (by rw [dG_length]; omega) hm))) ?_
            refine VL.r (.inl rfl) rfl (by decide) (yr_extract rfl rfl rfl (by nofun)) ?_
            refine VL.r (.inl rfl) rfl (by decide) (yr_extract rfl rfl rfl (by nofun)) ?_
            refine VL.s (.inl rfl) rfl (yc_store rfl sz77_Dsn rfl rfl (by repeat (first | exact UpdF.here | apply UpdF.there | apply UpdF.thereS)) (.inr ⟨rfl, rfl⟩) rfl (by first | exact Nat.le_of_ble_eq_true rfl | simp) (by decide) rfl) ?_
            rintro ⟨⟩
            refine VL.r (.inl rfl) rfl (by decide) (yr_assign rfl rfl) ?_
            refine VL.nil ?_
            refine VE.then_wp ?_
            refine V.ret ?_
            refine retN rfl (.cons (rv_cellS rfl Try.underlying77 sz77_Dsn (by first | exact Sees.root (by assumption) | exact Sees.own (by repeat (first | exact List.mem_cons_self | exact List.mem_append_left _ (by assumption) | apply List.mem_cons_of_mem | apply List.mem_append_right)) | exact Sees.root (hR _ (by omega)) | exact Sees.own (RowsIn.mem (by repeat (first | exact RowsIn.here | exact RowsIn.last | apply RowsIn.there | apply RowsIn.thereS)) _ (by omega)) | exact Sees.own (WRowsIn.mem (by repeat (first | exact WRowsIn.here | exact WRowsIn.last | apply WRowsIn.there | apply WRowsIn.thereS)) _ (by omega))) rfl rfl rfl) (.cons (rv_tmp rfl (by nofun)) .nil)) (by nofun) (fun w1 hw => ?_)
            first
              | (have hs9 := ds_yes (ws := ws) (vs := vs) (way := (y1, y2, y3)) (xs := xs) (by assumption) (by assumption) (by assumption) hm
                 rw [dsX_yes hs9, dsW_yes hs9, dsG_yes hs9, hs9]
                 refine ⟨(((ar, cr), g), (a33, c33), (ag, cg)), by rw [dX_length, dG_length] <;> rfl, ?_⟩
                 exact (hw.pick (by apply Pick.four; all_goals (repeat (first | exact Rem.here | exact Rem.all | exact Rem.hereS | apply Rem.there | apply Rem.thereS)))).outs (List.Sublist.refl _))
              | (have hs9 : dsOk ws vs (y1, y2, y3) xs = false := by first | exact ds_no4 hm | exact ds_no1 (by assumption) | exact ds_no2 (by assumption) | exact ds_no3 (by omega) | exact ds_no4 (ds_notfin (i := i) (j := j) (by omega) (by omega) (by assumption))
                 rw [dsX_no hs9, dsW_no hs9, dsG_no hs9, hs9]
                 exact ⟨(((none, 0), fun _ => (none, 0)), (none, 0), (none, 0)), rfl, hw.below, by simp [fl, hd, rents, Ent.at], by simp [fl, hd, rents, Ent.apart]⟩)

theorem c_implDsn {w : World} {a : Option Addr} {c : Nat} {f : Nat → Option Addr × Nat} {ws : List Wr} {a' : Option Addr} {c' : Nat} {vs : List V3} {y1 y2 y3 : Nat} {b : Option Addr} {d : Nat} {xs : List Nat} (hA : Cl w a (whd f ws)) (hR : WRws w f ws) (hn : wbulk ws ≤ 1050000) (hV : Cl w a' (vl vs)) (hvn : vs.length ≤ 1050000) (hB : Cl w b (fl xs)) (hxn : xs.length ≤ 1050000) : New Try.prog 47 [.slice a ws.length c, .slice a' vs.length c', vv (y1, y2, y3), .slice b xs.length d] w (fun (p : ((Option Addr × Nat) × (Nat → Option Addr × Nat)) × (Option Addr × Nat) × (Option Addr × Nat)) => .tuple #[.agg #[.slice p.1.1.1 (dsX ws vs (y1, y2, y3) xs).length p.1.1.2, .slice p.2.1.1 (dsW ws vs (y1, y2, y3) xs).length p.2.1.2, .slice p.2.2.1 (dsG ws vs (y1, y2, y3) xs).length p.2.2.2], .bool (dsOk ws vs (y1, y2, y3) xs)]) (fun p => ⟨p.2.2.1, fl (dsG ws vs (y1, y2, y3) xs), p.2.2.2 * 1, 43⟩ :: ⟨p.2.1.1, fl (dsW ws vs (y1, y2, y3) xs), p.2.1.2 * 1, 43⟩ :: ⟨p.1.1.1, hd p.1.2 (dsX ws vs (y1, y2, y3) xs), p.1.1.2 * 1, 24⟩ :: rents 43 p.1.2 (dsX ws vs (y1, y2, y3) xs)) := by
  refine New.enter Try.func47 rfl Try.ntmps47 (Nat.le_of_ble_eq_true rfl) ?_
  have hwl : ws.length ≤ wbulk ws := by unfold wbulk; omega
  have hrw : ∀ k, k < ws.length → (ws.getD k zw).1.length ≤ 1050000 := fun k hk => by have := wbulk_row hk; omega
  refine V.seq ?_
  refine V.region ?_
  refine VL.new1 (.inl rfl) rfl (by decide) (yn_box rfl rfl (.inr ⟨rfl, rfl⟩)) ?_
  intro b6
  refine VL.new1 (.inl rfl) rfl (by decide) (yn_alloc rfl zero77_Dsn rfl) ?_
  intro b8
  refine VL.r (.inl rfl) rfl (by decide) (yr_assign (u := .bool false) rfl rfl) ?_
  refine VL.nil ?_
  refine VE.then_wp ?_
  refine V.seq ?_
  refine V.seq ?_
  refine V.region ?_
  refine VL.r (.inl rfl) rfl (by decide) (yr_move rfl rfl) ?_
  refine VL.q (.inl rfl) rfl (by decide) (yq_callf rfl known86_Dsn (.cons rfl .nil) (fun w hw => (c_areDW (by first | exact Sees.root (by assumption) w hw | exact Sees.own (by repeat (first | exact List.mem_cons_self | exact List.mem_append_left _ (by assumption) | apply List.mem_cons_of_mem | apply List.mem_append_right)) w hw) (by first | exact WRws.root (by assumption) hw | exact WRws.own (by repeat (first | exact WRowsIn.here | exact WRowsIn.last | apply WRowsIn.there | apply WRowsIn.thereS)) hw) (by omega)))) ?_
  refine VL.r (.inl rfl) rfl (by decide) (yr_not rfl rfl) ?_
  refine VL.r (.inl rfl) rfl (by decide) (yr_move rfl rfl) ?_
  refine VX.split 21 _ rfl (fun h1 => ?_) (fun h1 => ?_)
  · skip
    replace h1 := bnot_t h1
    refine VL.no rfl rfl rfl rfl rfl (by decide) ?_
    refine VL.no rfl rfl rfl rfl rfl (by decide) ?_
    refine VL.no rfl rfl rfl rfl rfl (by decide) ?_
    refine VL.r (.inl rfl) rfl (by decide) (yr_pick_t (u := .bool true) rfl rfl rfl) ?_
    refine VL.r (.inl rfl) rfl (by decide) (yr_move rfl rfl) ?_
    refine VL.no rfl rfl rfl rfl rfl (by decide) ?_
    refine VL.no rfl rfl rfl rfl rfl (by decide) ?_
    refine VL.no rfl rfl rfl rfl rfl (by decide) ?_
    refine VL.no rfl rfl rfl rfl rfl (by decide) ?_
    refine VL.no rfl rfl rfl rfl rfl (by decide) ?_
    refine VL.r (.inl rfl) rfl (by decide) (yr_pick_t (u := .bool true) rfl rfl rfl) ?_
    refine VL.nil ?_
    refine VE.then_wp ?_
    refine V.condT rfl ?_
    refine V.seq ?_
    refine V.region ?_
    refine VL.r (.inl rfl) rfl (by decide) (yr_build rfl lay77_Dsn rfl .nil (by first | (simp; done) | (simp [vv]; done) | (simp [cn, cn1, cn0]; done)) rfl) ?_
    refine VL.s (.inl rfl) rfl (yc_store rfl sz77_Dsn rfl rfl (by repeat (first | exact UpdF.here | apply UpdF.there | apply UpdF.thereS)) (.inr ⟨rfl, rfl⟩) rfl (by first | exact Nat.le_of_ble_eq_true rfl | simp) (by decide) rfl) ?_
    rintro ⟨⟩
    refine VL.r (.inl rfl) rfl (by decide) (yr_assign (u := .bool false) rfl rfl) ?_
    refine VL.nil ?_
    refine VE.then_wp ?_
    refine V.ret ?_
    refine VE.then_ret ?_
    refine retN rfl (.cons (rv_cellS rfl Try.underlying77 sz77_Dsn (by first | exact Sees.root (by assumption) | exact Sees.own (by repeat (first | exact List.mem_cons_self | exact List.mem_append_left _ (by assumption) | apply List.mem_cons_of_mem | apply List.mem_append_right)) | exact Sees.root (hR _ (by omega)) | exact Sees.own (RowsIn.mem (by repeat (first | exact RowsIn.here | exact RowsIn.last | apply RowsIn.there | apply RowsIn.thereS)) _ (by omega)) | exact Sees.own (WRowsIn.mem (by repeat (first | exact WRowsIn.here | exact WRowsIn.last | apply WRowsIn.there | apply WRowsIn.thereS)) _ (by omega))) rfl rfl rfl) (.cons (rv_tmp rfl (by nofun)) .nil)) (by nofun) (fun w1 hw => ?_)
    first
      | (have hs9 := ds_yes (ws := ws) (vs := vs) (way := (y1, y2, y3)) (xs := xs) (by assumption) (by assumption) (by assumption) hm
         rw [dsX_yes hs9, dsW_yes hs9, dsG_yes hs9, hs9]
         refine ⟨(((ar, cr), g), (a35, c35), (ag, cg)), by rw [dX_length, dG_length] <;> rfl, ?_⟩
         exact (hw.pick (by apply Pick.four; all_goals (repeat (first | exact Rem.here | exact Rem.all | exact Rem.hereS | apply Rem.there | apply Rem.thereS)))).outs (List.Sublist.refl _))
      | (have hs9 : dsOk ws vs (y1, y2, y3) xs = false := by first | exact ds_no4 hm | exact ds_no1 (by assumption) | exact ds_no2 (by assumption) | exact ds_no3 (by omega) | exact ds_no4 (ds_notfin (i := i) (j := j) (by omega) (by omega) (by assumption))
         rw [dsX_no hs9, dsW_no hs9, dsG_no hs9, hs9]
         exact ⟨(((none, 0), fun _ => (none, 0)), (none, 0), (none, 0)), rfl, hw.below, by simp [fl, hd, rents, Ent.at], by simp [fl, hd, rents, Ent.apart]⟩)
  · skip
    replace h1 := bnot_f h1
    refine VL.r (.inr ⟨_, _, _, rfl, rfl, rfl⟩) rfl (by decide) (yr_move rfl rfl) ?_
    refine VL.q (.inr ⟨_, _, _, rfl, rfl, rfl⟩) rfl (by decide) (yq_callf rfl known87_Dsn (.cons rfl .nil) (fun w hw => (c_areDP (by first | exact Sees.root (by assumption) w hw | exact Sees.own (by repeat (first | exact List.mem_cons_self | exact List.mem_append_left _ (by assumption) | apply List.mem_cons_of_mem | apply List.mem_append_right)) w hw) (by omega)))) ?_
    refine VL.r (.inr ⟨_, _, _, rfl, rfl, rfl⟩) rfl (by decide) (yr_not rfl rfl) ?_
    refine VL.r (.inl rfl) rfl (by decide) (yr_pick_f rfl rfl rfl) ?_
    refine VL.r (.inl rfl) rfl (by decide) (yr_move rfl rfl) ?_
    refine VX.split 26 _ rfl (fun h3 => ?_) (fun h3 => ?_)
    · skip
      replace h3 := bnot_t h3
      refine VL.no rfl rfl rfl rfl rfl (by decide) ?_
      refine VL.no rfl rfl rfl rfl rfl (by decide) ?_
      refine VL.no rfl rfl rfl rfl rfl (by decide) ?_
      refine VL.no rfl rfl rfl rfl rfl (by decide) ?_
      refine VL.no rfl rfl rfl rfl rfl (by decide) ?_
      refine VL.r (.inl rfl) rfl (by decide) (yr_pick_t (u := .bool true) rfl rfl rfl) ?_
      refine VL.nil ?_
      refine VE.then_wp ?_
      refine V.condT rfl ?_
      refine V.seq ?_
      refine V.region ?_
      refine VL.r (.inl rfl) rfl (by decide) (yr_build rfl lay77_Dsn rfl .nil (by first | (simp; done) | (simp [vv]; done) | (simp [cn, cn1, cn0]; done)) rfl) ?_
      refine VL.s (.inl rfl) rfl (yc_store rfl sz77_Dsn rfl rfl (by repeat (first | exact UpdF.here | apply UpdF.there | apply UpdF.thereS)) (.inr ⟨rfl, rfl⟩) rfl (by first | exact Nat.le_of_ble_eq_true rfl | simp) (by decide) rfl) ?_
      rintro ⟨⟩
      refine VL.r (.inl rfl) rfl (by decide) (yr_assign (u := .bool false) rfl rfl) ?_
      refine VL.nil ?_
      refine VE.then_wp ?_
      refine V.ret ?_
      refine VE.then_ret ?_
      refine retN rfl (.cons (rv_cellS rfl Try.underlying77 sz77_Dsn (by first | exact Sees.root (by assumption) | exact Sees.own (by repeat (first | exact List.mem_cons_self | exact List.mem_append_left _ (by assumption) | apply List.mem_cons_of_mem | apply List.mem_append_right)) | exact Sees.root (hR _ (by omega)) | exact Sees.own (RowsIn.mem (by repeat (first | exact RowsIn.here | exact RowsIn.last | apply RowsIn.there | apply RowsIn.thereS)) _ (by omega)) | exact Sees.own (WRowsIn.mem (by repeat (first | exact WRowsIn.here | exact WRowsIn.last | apply WRowsIn.there | apply WRowsIn.thereS)) _ (by omega))) rfl rfl rfl) (.cons (rv_tmp rfl (by nofun)) .nil)) (by nofun) (fun w1 hw => ?_)
      first
        | (have hs9 := ds_yes (ws := ws) (vs := vs) (way := (y1, y2, y3)) (xs := xs) (by assumption) (by assumption) (by assumption) hm
           rw [dsX_yes hs9, dsW_yes hs9, dsG_yes hs9, hs9]
           refine ⟨(((ar, cr), g), (a35, c35), (ag, cg)), by rw [dX_length, dG_length] <;> rfl, ?_⟩
           exact (hw.pick (by apply Pick.four; all_goals (repeat (first | exact Rem.here | exact Rem.all | exact Rem.hereS | apply Rem.there | apply Rem.thereS)))).outs (List.Sublist.refl _))
        | (have hs9 : dsOk ws vs (y1, y2, y3) xs = false := by first | exact ds_no4 hm | exact ds_no1 (by assumption) | exact ds_no2 (by assumption) | exact ds_no3 (by omega) | exact ds_no4 (ds_notfin (i := i) (j := j) (by omega) (by omega) (by assumption))
           rw [dsX_no hs9, dsW_no hs9, dsG_no hs9, hs9]
           exact ⟨(((none, 0), fun _ => (none, 0)), (none, 0), (none, 0)), rfl, hw.below, by simp [fl, hd, rents, Ent.at], by simp [fl, hd, rents, Ent.apart]⟩)
    · skip
      replace h3 := bnot_f h3
      refine VL.r (.inr ⟨_, _, _, rfl, rfl, rfl⟩) rfl (by decide) (yr_move rfl rfl) ?_
      refine VL.r (.inr ⟨_, _, _, rfl, rfl, rfl⟩) rfl (by decide) (yr_len rfl Try.underlying24 rfl) ?_
      refine VL.r (.inr ⟨_, _, _, rfl, rfl, rfl⟩) rfl (by decide) (yr_move rfl rfl) ?_
      refine VL.r (.inr ⟨_, _, _, rfl, rfl, rfl⟩) rfl (by decide) (yr_len rfl Try.underlying51 rfl) ?_
      refine VL.r (.inr ⟨_, _, _, rfl, rfl, rfl⟩) rfl (by decide) (yr_icmp rfl (.inr (.inl rfl)) rfl rfl) ?_
      refine VL.r (.inl rfl) rfl (by decide) (yr_pick_f rfl rfl rfl) ?_
      refine VL.nil ?_
      refine VE.then_wp ?_
      refine V.cond rfl (fun h5 => ?_) (fun h5 => ?_)
      · skip
        replace h5 := ic_neq h5
        refine V.seq ?_
        refine V.region ?_
        refine VL.r (.inl rfl) rfl (by decide) (yr_build rfl lay77_Dsn rfl .nil (by first | (simp; done) | (simp [vv]; done) | (simp [cn, cn1, cn0]; done)) rfl) ?_
        refine VL.s (.inl rfl) rfl (yc_store rfl sz77_Dsn rfl rfl (by repeat (first | exact UpdF.here | apply UpdF.there | apply UpdF.thereS)) (.inr ⟨rfl, rfl⟩) rfl (by first | exact Nat.le_of_ble_eq_true rfl | simp) (by decide) rfl) ?_
        rintro ⟨⟩
        refine VL.r (.inl rfl) rfl (by decide) (yr_assign (u := .bool false) rfl rfl) ?_
        refine VL.nil ?_
        refine VE.then_wp ?_
        refine V.ret ?_
        refine VE.then_ret ?_
        refine retN rfl (.cons (rv_cellS rfl Try.underlying77 sz77_Dsn (by first | exact Sees.root (by assumption) | exact Sees.own (by repeat (first | exact List.mem_cons_self | exact List.mem_append_left _ (by assumption) | apply List.mem_cons_of_mem | apply List.mem_append_right)) | exact Sees.root (hR _ (by omega)) | exact Sees.own (RowsIn.mem (by repeat (first | exact RowsIn.here | exact RowsIn.last | apply RowsIn.there | apply RowsIn.thereS)) _ (by omega)) | exact Sees.own (WRowsIn.mem (by repeat (first | exact WRowsIn.here | exact WRowsIn.last | apply WRowsIn.there | apply WRowsIn.thereS)) _ (by omega))) rfl rfl rfl) (.cons (rv_tmp rfl (by nofun)) .nil)) (by nofun) (fun w1 hw => ?_)
        first
          | (have hs9 := ds_yes (ws := ws) (vs := vs) (way := (y1, y2, y3)) (xs := xs) (by assumption) (by assumption) (by assumption) hm
             rw [dsX_yes hs9, dsW_yes hs9, dsG_yes hs9, hs9]
             refine ⟨(((ar, cr), g), (a35, c35), (ag, cg)), by rw [dX_length, dG_length] <;> rfl, ?_⟩
             exact (hw.pick (by apply Pick.four; all_goals (repeat (first | exact Rem.here | exact Rem.all | exact Rem.hereS | apply Rem.there | apply Rem.thereS)))).outs (List.Sublist.refl _))
          | (have hs9 : dsOk ws vs (y1, y2, y3) xs = false := by first | exact ds_no4 hm | exact ds_no1 (by assumption) | exact ds_no2 (by assumption) | exact ds_no3 (by omega) | exact ds_no4 (ds_notfin (i := i) (j := j) (by omega) (by omega) (by assumption))
             rw [dsX_no hs9, dsW_no hs9, dsG_no hs9, hs9]
             exact ⟨(((none, 0), fun _ => (none, 0)), (none, 0), (none, 0)), rfl, hw.below, by simp [fl, hd, rents, Ent.at], by simp [fl, hd, rents, Ent.apart]⟩)
      · skip
        replace h5 := ic_neq' h5
        have hp9 := dpOk_is (vs := vs) (by assumption)
        have hpf := hp9.2
        have hdw9 := dwOk_is (ws := ws) (by assumption)
        have hv := hdw9.2
        have hdw : ws.length ≤ 8 ∧ ws.all wireOk = true := by have := hdw9.2; unfold wiresOk at this; rw [Bool.and_eq_true, decide_eq_true_eq] at this; exact this
        have hvl := fun (k : Nat) (hk : k < ws.length) => wire_len hv hk
        have hxl : xs.length = vs.length := by omega
        refine V.skip ?_
        refine VE.then_wp ?_
        refine V.seq ?_
        refine V.region ?_
        refine VL.r (.inl rfl) rfl (by decide) (yr_move rfl rfl) ?_
        refine VL.new1 (.inl rfl) rfl (by decide) (yn_callf rfl known109_Dsn (.cons rfl .nil) (fun w hw => (c_cloneF (by first | exact Sees.root (by assumption) w hw | exact Sees.own (by repeat (first | exact List.mem_cons_self | exact List.mem_append_left _ (by assumption) | apply List.mem_cons_of_mem | apply List.mem_append_right)) w hw) (by omega)))) ?_
        rintro ⟨a35, c35⟩
        refine VL.r (.inl rfl) rfl (by decide) (yr_build rfl lay77_Dsn rfl (.cons rfl .nil) (by first | (simp; done) | (simp [vv]; done) | (simp [cn, cn1, cn0]; done)) rfl) ?_
        refine VL.new1 (.inl rfl) rfl (by decide) (yn_alloc rfl zero77_Dsn rfl) ?_
        intro b10
        refine VL.s (.inl rfl) rfl (yc_store rfl sz77_Dsn rfl rfl (by repeat (first | exact UpdF.here | apply UpdF.there | apply UpdF.thereS)) (.inr ⟨rfl, rfl⟩) rfl (by first | exact Nat.le_of_ble_eq_true rfl | simp) (by decide) rfl) ?_
        rintro ⟨⟩
        refine VL.nil ?_
        refine VE.then_wp ?_
        refine V.seq ?_
        refine V.seq ?_
        refine V.region ?_
        refine VL.r (.inl rfl) rfl (by decide) (yr_move rfl rfl) ?_
        refine VL.r (.inl rfl) rfl (by decide) (yr_len rfl Try.underlying51 rfl) ?_
        refine VL.r (.inl rfl) rfl (by decide) (yr_move (u := .int .i64 0) rfl rfl) ?_
        refine VL.nil ?_
        refine VE.then_wp ?_
        refine V.block ?_
        refine V.loopc (G := Nat × (Nat → Option Addr × Nat) × (Option Addr) × Nat × (Option Addr) × Nat) [(0, _), (6, _), (8, _), (10, _), (37, _), (38, _)] (fun ⟨i, g, ar, cr, ag, cg⟩ => i ≤ vs.length) (fun ⟨i, g, ar, cr, ag, cg⟩ => (⟨ar, hd g ((dX ws vs (y1, y2, y3)).take i), cr * 1, 24⟩ :: ⟨ag, fl (dG i), cg * 1, 43⟩ :: ⟨some ⟨b10, 0, none⟩, [.slice ar i cr, .slice a35 xs.length c35, .slice ag i cg], 3, 77⟩ :: ⟨a35, fl xs, c35 * 1, 43⟩ :: ⟨some ⟨b8, 0, none⟩, [.slice none 0 0, .slice none 0 0, .slice none 0 0], 3, 77⟩ :: ⟨some ⟨b6, 0, none⟩, [.float .f32 ((y1, y2, y3)).1, .float .f32 ((y1, y2, y3)).2.1, .float .f32 ((y1, y2, y3)).2.2], 3, 53⟩ :: rents 43 g ((dX ws vs (y1, y2, y3)).take i))) (fun ⟨i, g, ar, cr, ag, cg⟩ => [(39, .int .i64 (i : Int))]) (fun ⟨i, g, ar, cr, ag, cg⟩ => vs.length - i) (0, fun _ => (none, 0), none, 0, none, 0) (.cons rfl (.cons rfl (.cons rfl (.cons rfl (.cons rfl (.cons rfl .nil)))))) (.cons rfl .nil) ?_ ?_ ?_
        · exact (fun w1 hw => by
            have h9 := (hw.nil 43).nil 24
            try simp only [Nat.zero_add, List.nil_append] at h9
            exact h9)
        · exact (by omega)
        rintro ⟨i, g, ar, cr, ag, cg⟩ hi
        show V _ _ _ (⟨ar, hd g ((dX ws vs (y1, y2, y3)).take i), cr * 1, 24⟩ :: ⟨ag, fl (dG i), cg * 1, 43⟩ :: ⟨some ⟨b10, 0, none⟩, [.slice ar i cr, .slice a35 xs.length c35, .slice ag i cg], 3, 77⟩ :: ⟨a35, fl xs, c35 * 1, 43⟩ :: ⟨some ⟨b8, 0, none⟩, [.slice none 0 0, .slice none 0 0, .slice none 0 0], 3, 77⟩ :: ⟨some ⟨b6, 0, none⟩, [.float .f32 ((y1, y2, y3)).1, .float .f32 ((y1, y2, y3)).2.1, .float .f32 ((y1, y2, y3)).2.2], 3, 53⟩ :: rents 43 g ((dX ws vs (y1, y2, y3)).take i)) ([(39, .int .i64 (i : Int))] ++ [(0, _), (6, _), (8, _), (10, _), (37, _), (38, _)]) _ _
        refine V.seq ?_
        refine V.region ?_
        refine VL.r (.inl rfl) rfl (by decide) (yr_icmp rfl (.inr (.inr (.inl rfl))) rfl rfl) ?_
        refine VL.nil ?_
        refine VE.then_wp ?_
        refine V.seq ?_
        refine V.cond rfl (fun h6 => ?_) (fun h6 => ?_)
        · skip
          replace h6 := ic_lss h6
          refine V.skip ?_
          refine VE.then_wp ?_
          refine V.seq ?_
          refine V.block ?_
          refine V.seq ?_
          refine V.region ?_
          refine VL.q (.inl rfl) rfl (by decide) (yq_idxN (k := i) rfl Try.underlying51 sz53_Dsn rfl rfl (by first | exact Sees.root (by assumption) | exact Sees.own (by repeat (first | exact List.mem_cons_self | exact List.mem_append_left _ (by assumption) | apply List.mem_cons_of_mem | apply List.mem_append_right)) | exact Sees.root (hR _ (by omega)) | exact Sees.own (RowsIn.mem (by repeat (first | exact RowsIn.here | exact RowsIn.last | apply RowsIn.there | apply RowsIn.thereS)) _ (by omega)) | exact Sees.own (WRowsIn.mem (by repeat (first | exact WRowsIn.here | exact WRowsIn.last | apply WRowsIn.there | apply WRowsIn.thereS)) _ (by omega))) (by first | rfl | omega | (push_cast; rfl) | (push_cast; omega) | exact tmod_nat _ _) (by first | exact vl_length _ | exact whd_length _ _) (by decide) (by omega)) ?_
          refine VL.q (.inl rfl) rfl (by decide) (yq_loadV rfl Try.underlying53 sz53_Dsn rfl (by first | exact Sees.root (by assumption) | exact Sees.own (by repeat (first | exact List.mem_cons_self | exact List.mem_append_left _ (by assumption) | apply List.mem_cons_of_mem | apply List.mem_append_right)) | exact Sees.root (hR _ (by omega)) | exact Sees.own (RowsIn.mem (by repeat (first | exact RowsIn.here | exact RowsIn.last | apply RowsIn.there | apply RowsIn.thereS)) _ (by omega)) | exact Sees.own (WRowsIn.mem (by repeat (first | exact WRowsIn.here | exact WRowsIn.last | apply WRowsIn.there | apply WRowsIn.thereS)) _ (by omega))) (by omega)) ?_
          refine VL.new1 (.inl rfl) rfl (by decide) (yn_alloc rfl zero53_Dsn rfl) ?_
          intro b12
          refine VL.s (.inl rfl) rfl (yc_store rfl sz53_Dsn rfl rfl (by repeat (first | exact UpdF.here | apply UpdF.there | apply UpdF.thereS)) (.inr ⟨rfl, rfl⟩) rfl (by first | exact Nat.le_of_ble_eq_true rfl | simp) (by decide) rfl) ?_
          rintro ⟨⟩
          refine VL.nil ?_
          refine VE.then_wp ?_
          refine V.seq ?_
          refine V.region ?_
          refine VL.new1 (.inl rfl) rfl (by decide) (yn_lit rfl Try.underlying24 elt43_Dsn rfl (by decide) .nil (by first | (simp; done) | (simp [cn, cn1, cn0]; done)) rfl rfl rfl) ?_
          intro b43
          refine VL.r (.inl rfl) rfl (by decide) (yr_assign rfl rfl) ?_
          refine VL.nil ?_
          refine VE.then_wp ?_
          refine V.seq ?_
          refine V.seq ?_
          refine V.region ?_
          refine VL.r (.inl rfl) rfl (by decide) (yr_move rfl rfl) ?_
          refine VL.r (.inl rfl) rfl (by decide) (yr_len rfl Try.underlying22 rfl) ?_
          refine VL.r (.inl rfl) rfl (by decide) (yr_move (u := .int .i64 0) rfl rfl) ?_
          refine VL.nil ?_
          refine VE.then_wp ?_
          refine V.block ?_
          refine V.loopc (G := Nat × (Option Addr) × Nat) [(0, _), (6, _), (8, _), (10, _), (12, _), (37, _), (38, _), (39, _), (44, _), (45, _)] (fun ⟨j, ai, ci⟩ => j ≤ ws.length) (fun ⟨j, ai, ci⟩ => (⟨ai, fl (dRow ws (y1, y2, y3) (vs.getD i z3) j), ci * 1, 43⟩ :: ⟨some ⟨b12, 0, none⟩, [.float .f32 ((vs.getD i z3)).1, .float .f32 ((vs.getD i z3)).2.1, .float .f32 ((vs.getD i z3)).2.2], 3, 53⟩ :: (⟨ar, hd g ((dX ws vs (y1, y2, y3)).take i), cr * 1, 24⟩ :: ⟨ag, fl (dG i), cg * 1, 43⟩ :: ⟨some ⟨b10, 0, none⟩, [.slice ar i cr, .slice a35 xs.length c35, .slice ag i cg], 3, 77⟩ :: ⟨a35, fl xs, c35 * 1, 43⟩ :: ⟨some ⟨b8, 0, none⟩, [.slice none 0 0, .slice none 0 0, .slice none 0 0], 3, 77⟩ :: ⟨some ⟨b6, 0, none⟩, [.float .f32 ((y1, y2, y3)).1, .float .f32 ((y1, y2, y3)).2.1, .float .f32 ((y1, y2, y3)).2.2], 3, 53⟩ :: rents 43 g ((dX ws vs (y1, y2, y3)).take i)))) (fun ⟨j, ai, ci⟩ => [(13, .slice ai j ci), (46, .int .i64 (j : Int))]) (fun ⟨j, ai, ci⟩ => ws.length - j) (0, some ⟨b43, 0, none⟩, 0) (.cons rfl (.cons rfl (.cons rfl (.cons rfl (.cons rfl (.cons rfl (.cons rfl (.cons rfl (.cons rfl (.cons rfl .nil)))))))))) (.cons rfl (.cons rfl .nil)) ?_ ?_ ?_
          · exact (fun w1 hw => hw)
          · exact (by omega)
          rintro ⟨j, ai, ci⟩ hj
          show V _ _ _ (⟨ai, fl (dRow ws (y1, y2, y3) (vs.getD i z3) j), ci * 1, 43⟩ :: ⟨some ⟨b12, 0, none⟩, [.float .f32 ((vs.getD i z3)).1, .float .f32 ((vs.getD i z3)).2.1, .float .f32 ((vs.getD i z3)).2.2], 3, 53⟩ :: (⟨ar, hd g ((dX ws vs (y1, y2, y3)).take i), cr * 1, 24⟩ :: ⟨ag, fl (dG i), cg * 1, 43⟩ :: ⟨some ⟨b10, 0, none⟩, [.slice ar i cr, .slice a35 xs.length c35, .slice ag i cg], 3, 77⟩ :: ⟨a35, fl xs, c35 * 1, 43⟩ :: ⟨some ⟨b8, 0, none⟩, [.slice none 0 0, .slice none 0 0, .slice none 0 0], 3, 77⟩ :: ⟨some ⟨b6, 0, none⟩, [.float .f32 ((y1, y2, y3)).1, .float .f32 ((y1, y2, y3)).2.1, .float .f32 ((y1, y2, y3)).2.2], 3, 53⟩ :: rents 43 g ((dX ws vs (y1, y2, y3)).take i))) ([(13, .slice ai j ci), (46, .int .i64 (j : Int))] ++ [(0, _), (6, _), (8, _), (10, _), (12, _), (37, _), (38, _), (39, _), (44, _), (45, _)]) _ _
          have hwj := fun (h : j < ws.length) => wall_getD.1 hdw.2 j h
          refine V.seq ?_
          refine V.region ?_
          refine VL.r (.inl rfl) rfl (by decide) (yr_icmp rfl (.inr (.inr (.inl rfl))) rfl rfl) ?_
          refine VL.nil ?_
          refine VE.then_wp ?_
          refine V.seq ?_
          refine V.cond rfl (fun h7 => ?_) (fun h7 => ?_)
          · skip
            replace h7 := ic_lss h7
            refine V.skip ?_
            refine VE.then_wp ?_
            refine V.seq ?_
            refine V.block ?_
            refine V.seq ?_
            refine V.region ?_
            refine VL.q (.inl rfl) rfl (by decide) (yq_idxN (k := j) rfl Try.underlying22 sz122_Dsn rfl rfl (by first | exact Sees.root (by assumption) | exact Sees.own (by repeat (first | exact List.mem_cons_self | exact List.mem_append_left _ (by assumption) | apply List.mem_cons_of_mem | apply List.mem_append_right)) | exact Sees.root (hR _ (by omega)) | exact Sees.own (RowsIn.mem (by repeat (first | exact RowsIn.here | exact RowsIn.last | apply RowsIn.there | apply RowsIn.thereS)) _ (by omega)) | exact Sees.own (WRowsIn.mem (by repeat (first | exact WRowsIn.here | exact WRowsIn.last | apply WRowsIn.there | apply WRowsIn.thereS)) _ (by omega))) (by first | rfl | omega | (push_cast; rfl) | (push_cast; omega) | exact tmod_nat _ _) (by first | exact vl_length _ | exact whd_length _ _) (by decide) (by omega)) ?_
            refine VL.q (.inl rfl) rfl (by decide) (yq_loadW rfl Try.underlying122 sz122_Dsn rfl (by first | exact Sees.root (by assumption) | exact Sees.own (by repeat (first | exact List.mem_cons_self | exact List.mem_append_left _ (by assumption) | apply List.mem_cons_of_mem | apply List.mem_append_right)) | exact Sees.root (hR _ (by omega)) | exact Sees.own (RowsIn.mem (by repeat (first | exact RowsIn.here | exact RowsIn.last | apply RowsIn.there | apply RowsIn.thereS)) _ (by omega)) | exact Sees.own (WRowsIn.mem (by repeat (first | exact WRowsIn.here | exact WRowsIn.last | apply WRowsIn.there | apply WRowsIn.thereS)) _ (by omega))) (by omega)) ?_
            refine VL.new1 (.inl rfl) rfl (by decide) (yn_alloc rfl zero122_Dsn rfl) ?_
            intro b15
            refine VL.s (.inl rfl) rfl (yc_store rfl sz122_Dsn rfl rfl (by repeat (first | exact UpdF.here | apply UpdF.there | apply UpdF.thereS)) (.inr ⟨rfl, rfl⟩) rfl (by first | exact Nat.le_of_ble_eq_true rfl | simp) (by decide) rfl) ?_
            rintro ⟨⟩
            refine VL.nil ?_
            refine VE.then_wp ?_
            refine V.seq ?_
            refine V.region ?_
            refine VL.r (.inl rfl) rfl (by decide) (yr_fieldAddr rfl Try.underlying122 rfl rfl sz51_Dsn (by decide) rfl) ?_
            refine VL.q (.inl rfl) rfl (by decide) (yq_load rfl fb51_Dsn rfl (by first | exact Sees.root (by assumption) | exact Sees.own (by repeat (first | exact List.mem_cons_self | exact List.mem_append_left _ (by assumption) | apply List.mem_cons_of_mem | apply List.mem_append_right)) | exact Sees.root (hR _ (by omega)) | exact Sees.own (RowsIn.mem (by repeat (first | exact RowsIn.here | exact RowsIn.last | apply RowsIn.there | apply RowsIn.thereS)) _ (by omega)) | exact Sees.own (WRowsIn.mem (by repeat (first | exact WRowsIn.here | exact WRowsIn.last | apply WRowsIn.there | apply WRowsIn.thereS)) _ (by omega))) rfl) ?_
            refine VL.r (.inl rfl) rfl (by decide) (yr_fieldAddr rfl Try.underlying122 rfl rfl sz4_Dsn (by decide) rfl) ?_
            refine VL.q (.inl rfl) rfl (by decide) (yq_load rfl fb4_Dsn rfl (by first | exact Sees.root (by assumption) | exact Sees.own (by repeat (first | exact List.mem_cons_self | exact List.mem_append_left _ (by assumption) | apply List.mem_cons_of_mem | apply List.mem_append_right)) | exact Sees.root (hR _ (by omega)) | exact Sees.own (RowsIn.mem (by repeat (first | exact RowsIn.here | exact RowsIn.last | apply RowsIn.there | apply RowsIn.thereS)) _ (by omega)) | exact Sees.own (WRowsIn.mem (by repeat (first | exact WRowsIn.here | exact WRowsIn.last | apply WRowsIn.there | apply WRowsIn.thereS)) _ (by omega))) rfl) ?_
            refine VL.r (.inl rfl) rfl (by decide) (yr_build rfl lay122_Dsn rfl (.cons rfl (.cons rfl (.cons rfl .nil))) (by first | (simp; done) | (simp [vv]; done) | (simp [cn, cn1, cn0]; done)) rfl) ?_
            refine VL.q (.inl rfl) rfl (by decide) (yq_loadS rfl Try.underlying53 sz53_Dsn rfl (by first | exact Sees.root (by assumption) | exact Sees.own (by repeat (first | exact List.mem_cons_self | exact List.mem_append_left _ (by assumption) | apply List.mem_cons_of_mem | apply List.mem_append_right)) | exact Sees.root (hR _ (by omega)) | exact Sees.own (RowsIn.mem (by repeat (first | exact RowsIn.here | exact RowsIn.last | apply RowsIn.there | apply RowsIn.thereS)) _ (by omega)) | exact Sees.own (WRowsIn.mem (by repeat (first | exact WRowsIn.here | exact WRowsIn.last | apply WRowsIn.there | apply WRowsIn.thereS)) _ (by omega))) rfl rfl rfl) ?_
            refine VL.q (.inl rfl) rfl (by decide) (yq_callf rfl known110_Dsn (.cons rfl (.cons rfl .nil)) (fun w hw => (c_fieldOf2 (ps := (ws.getD j zw).1) (cl := (ws.getD j zw).2.1) (cur := 1065353216) (hR.root hw j (by omega)) (hvl j (by omega)).1 (hvl j (by omega)).2 (by have h8 := wire_is (hwj (by omega)); exact (wire_yes' (by omega) h8.2.2.1 fin_one).symm) (hpf i (by omega))))) ?_
            refine VL.r (.inl rfl) rfl (by decide) (yr_move rfl rfl) ?_
            refine VL.r (.inl rfl) rfl (by decide) (yr_extract rfl rfl rfl (by nofun)) ?_
            refine VL.r (.inl rfl) rfl (by decide) (yr_extract rfl rfl rfl (by nofun)) ?_
            refine VL.new1 (.inl rfl) rfl (by decide) (yn_alloc rfl zero53_Dsn rfl) ?_
            intro b16
            refine VL.s (.inl rfl) rfl (yc_store rfl sz53_Dsn rfl rfl (by repeat (first | exact UpdF.here | apply UpdF.there | apply UpdF.thereS)) (.inr ⟨rfl, rfl⟩) rfl (by first | exact Nat.le_of_ble_eq_true rfl | simp) (by decide) rfl) ?_
            rintro ⟨⟩
            refine VL.r (.inl rfl) rfl (by decide) (yr_assign rfl rfl) ?_
            refine VL.nil ?_
            refine VE.then_wp ?_
            refine V.seq ?_
            refine V.seq ?_
            refine V.region ?_
            refine VL.r (.inl rfl) rfl (by decide) (yr_move rfl rfl) ?_
            refine VL.r (.inl rfl) rfl (by decide) (yr_not rfl rfl) ?_
            refine VL.nil ?_
            refine VE.then_wp ?_
            refine V.cond rfl (fun h8 => ?_) (fun h8 => ?_)
            · skip
              replace h8 := bnot_t h8
              refine V.seq ?_
              refine V.region ?_
              refine VL.r (.inl rfl) rfl (by decide) (yr_build rfl lay77_Dsn rfl .nil (by first | (simp; done) | (simp [vv]; done) | (simp [cn, cn1, cn0]; done)) rfl) ?_
              refine VL.s (.inl rfl) rfl (yc_store rfl sz77_Dsn rfl rfl (by repeat (first | exact UpdF.here | apply UpdF.there | apply UpdF.thereS)) (.inr ⟨rfl, rfl⟩) rfl (by first | exact Nat.le_of_ble_eq_true rfl | simp) (by decide) rfl) ?_
              rintro ⟨⟩
              refine VL.r (.inl rfl) rfl (by decide) (yr_assign (u := .bool false) rfl rfl) ?_
              refine VL.nil ?_
              refine VE.then_wp ?_
              refine V.ret ?_
              refine VE.then_ret ?_
              refine VE.block_ret ?_
              refine VE.then_ret ?_
              refine VE.then_ret ?_
              refine VE.block_ret ?_
              refine VE.then_ret ?_
              refine VE.block_ret ?_
              refine VE.then_ret ?_
              refine VE.then_ret ?_
              refine VE.block_ret ?_
              refine VE.then_ret ?_
              refine retN rfl (.cons (rv_cellS rfl Try.underlying77 sz77_Dsn (by first | exact Sees.root (by assumption) | exact Sees.own (by repeat (first | exact List.mem_cons_self | exact List.mem_append_left _ (by assumption) | apply List.mem_cons_of_mem | apply List.mem_append_right)) | exact Sees.root (hR _ (by omega)) | exact Sees.own (RowsIn.mem (by repeat (first | exact RowsIn.here | exact RowsIn.last | apply RowsIn.there | apply RowsIn.thereS)) _ (by omega)) | exact Sees.own (WRowsIn.mem (by repeat (first | exact WRowsIn.here | exact WRowsIn.last | apply WRowsIn.there | apply WRowsIn.thereS)) _ (by omega))) rfl rfl rfl) (.cons (rv_tmp rfl (by nofun)) .nil)) (by nofun) (fun w1 hw => ?_)
              first
                | (have hs9 := ds_yes (ws := ws) (vs := vs) (way := (y1, y2, y3)) (xs := xs) (by assumption) (by assumption) (by assumption) hm
                   rw [dsX_yes hs9, dsW_yes hs9, dsG_yes hs9, hs9]
                   refine ⟨(((ar, cr), g), (a35, c35), (ag, cg)), by rw [dX_length, dG_length] <;> rfl, ?_⟩
                   exact (hw.pick (by apply Pick.four; all_goals (repeat (first | exact Rem.here | exact Rem.all | exact Rem.hereS | apply Rem.there | apply Rem.thereS)))).outs (List.Sublist.refl _))
                | (have hs9 : dsOk ws vs (y1, y2, y3) xs = false := by first | exact ds_no4 hm | exact ds_no1 (by assumption) | exact ds_no2 (by assumption) | exact ds_no3 (by omega) | exact ds_no4 (ds_notfin (i := i) (j := j) (by omega) (by omega) (by assumption))
                   rw [dsX_no hs9, dsW_no hs9, dsG_no hs9, hs9]
                   exact ⟨(((none, 0), fun _ => (none, 0)), (none, 0), (none, 0)), rfl, hw.below, by simp [fl, hd, rents, Ent.at], by simp [fl, hd, rents, Ent.apart]⟩)
            · skip
              replace h8 := bnot_f h8
              refine V.skip ?_
              refine VE.then_wp ?_
              refine V.region ?_
              refine VL.r (.inl rfl) rfl (by decide) (yr_move rfl rfl) ?_
              refine VL.q (.inl rfl) rfl (by decide) (yq_loadS rfl Try.underlying53 sz53_Dsn rfl (by first | exact Sees.root (by assumption) | exact Sees.own (by repeat (first | exact List.mem_cons_self | exact List.mem_append_left _ (by assumption) | apply List.mem_cons_of_mem | apply List.mem_append_right)) | exact Sees.root (hR _ (by omega)) | exact Sees.own (RowsIn.mem (by repeat (first | exact RowsIn.here | exact RowsIn.last | apply RowsIn.there | apply RowsIn.thereS)) _ (by omega)) | exact Sees.own (WRowsIn.mem (by repeat (first | exact WRowsIn.here | exact WRowsIn.last | apply WRowsIn.there | apply WRowsIn.thereS)) _ (by omega))) rfl rfl rfl) ?_
              refine VL.q (.inl rfl) rfl (by decide) (yq_loadS rfl Try.underlying53 sz53_Dsn rfl (by first | exact Sees.root (by assumption) | exact Sees.own (by repeat (first | exact List.mem_cons_self | exact List.mem_append_left _ (by assumption) | apply List.mem_cons_of_mem | apply List.mem_append_right)) | exact Sees.root (hR _ (by omega)) | exact Sees.own (RowsIn.mem (by repeat (first | exact RowsIn.here | exact RowsIn.last | apply RowsIn.there | apply RowsIn.thereS)) _ (by omega)) | exact Sees.own (WRowsIn.mem (by repeat (first | exact WRowsIn.here | exact WRowsIn.last | apply WRowsIn.there | apply WRowsIn.thereS)) _ (by omega))) rfl rfl rfl) ?_
              refine VL.q (.inl rfl) rfl (by decide) (yq_callf rfl known89_Dsn (.cons rfl (.cons rfl .nil)) (fun w hw => c_inner3)) ?_
              refine VL.new1 (.inl rfl) rfl (by decide) (yn_lit rfl Try.underlying24 elt43_Dsn rfl (by decide) (.cons rfl .nil) (by first | (simp; done) | (simp [cn, cn1, cn0]; done)) rfl rfl rfl) ?_
              intro b67
              refine VL.c (.inl rfl) rfl (by decide) (yc_appendz 1 rfl rfl Try.underlying24 elt43_Dsn rfl rfl (by repeat (first | exact UpdF.here | apply UpdF.there | apply UpdF.thereS)) (by first | exact Sees.root (by assumption) | exact Sees.own (by repeat (first | exact List.mem_cons_self | exact List.mem_append_left _ (by assumption) | apply List.mem_cons_of_mem | apply List.mem_append_right)) | exact Sees.root (hR _ (by omega)) | exact Sees.own (RowsIn.mem (by repeat (first | exact RowsIn.here | exact RowsIn.last | apply RowsIn.there | apply RowsIn.thereS)) _ (by omega)) | exact Sees.own (WRowsIn.mem (by repeat (first | exact WRowsIn.here | exact WRowsIn.last | apply WRowsIn.there | apply WRowsIn.thereS)) _ (by omega))) rfl (by first | (simp; done) | (rw [fl_length]; omega) | (rw [fl_length, dRow_length, Nat.mul_one]) | (rw [fl_length, dG_length, Nat.mul_one]) | (rw [hd_length, List.length_take, dX_length]; omega)) (by first | rfl | (rw [fl_length]; omega)) (by first | rfl | exact fl_scal _ | exact hd_scal _ _) (by first | rfl | exact fl_scal _) (by omega) (by omega)) ?_
              rintro ⟨a68, c68⟩
              refine VL.r (.inl rfl) rfl (by decide) (yr_assign rfl rfl) ?_
              refine VL.nil ?_
              refine VE.block_normal ?_
              refine VE.then_wp ?_
              refine V.region ?_
              refine VL.r (.inl rfl) rfl (by decide) (yr_int rfl rfl rfl (.inl ⟨rfl, wrap_in (by omega)⟩)) ?_
              refine VL.r (.inl rfl) rfl (by decide) (yr_move rfl rfl) ?_
              refine VL.nil ?_
              refine VE.round (j + 1, a68, c68) ?_ ?_ ?_ ?_ ?_
              · exact (.cons rfl (.cons rfl .nil))
              · exact (.cons rfl (.cons rfl (.cons rfl (.cons rfl (.cons rfl (.cons rfl (.cons rfl (.cons rfl (.cons rfl (.cons rfl .nil))))))))))
              · exact (fun w1 hw => by
                  have h9 := hw.sub (List.Sublist.trans (List.sublist_cons_self _ _) ((List.sublist_cons_self _ _).trans (List.sublist_cons_self _ _)))
                  dsimp only
                  rw [← dRow_fl' (by assumption)]
                  exact h9)
              · omega
              · (try dsimp only); omega
          · skip
            replace h7 := ic_lss' h7
            obtain rfl : j = ws.length := by omega
            refine V.exit ?_
            refine VE.then_exit ?_
            refine VE.then_exit ?_
            refine VE.block_here ?_
            refine VE.then_wp ?_
            refine V.seq ?_
            refine V.region ?_
            refine VL.r (.inl rfl) rfl (by decide) (yr_fieldAddr rfl Try.underlying77 rfl rfl sz75_Dsn (by decide) rfl) ?_
            refine VL.q (.inl rfl) rfl (by decide) (yq_load rfl fb75_Dsn rfl (by first | exact Sees.root (by assumption) | exact Sees.own (by repeat (first | exact List.mem_cons_self | exact List.mem_append_left _ (by assumption) | apply List.mem_cons_of_mem | apply List.mem_append_right)) | exact Sees.root (hR _ (by omega)) | exact Sees.own (RowsIn.mem (by repeat (first | exact RowsIn.here | exact RowsIn.last | apply RowsIn.there | apply RowsIn.thereS)) _ (by omega)) | exact Sees.own (WRowsIn.mem (by repeat (first | exact WRowsIn.here | exact WRowsIn.last | apply WRowsIn.there | apply WRowsIn.thereS)) _ (by omega))) rfl) ?_
            refine VL.r (.inl rfl) rfl (by decide) (yr_move rfl rfl) ?_
            refine VL.new1 (.inl rfl) rfl (by decide) (yn_lit rfl Try.underlying75 elt24_Dsn rfl (by decide) (.cons rfl .nil) (by first | (simp; done) | (simp [cn, cn1, cn0]; done)) rfl rfl rfl) ?_
            intro b73
            refine VL.c (.inl rfl) rfl (by decide) (yc_appendz 1 rfl rfl Try.underlying75 elt24_Dsn rfl rfl (by repeat (first | exact UpdF.here | apply UpdF.there | apply UpdF.thereS)) (by first | exact Sees.root (by assumption) | exact Sees.own (by repeat (first | exact List.mem_cons_self | exact List.mem_append_left _ (by assumption) | apply List.mem_cons_of_mem | apply List.mem_append_right)) | exact Sees.root (hR _ (by omega)) | exact Sees.own (RowsIn.mem (by repeat (first | exact RowsIn.here | exact RowsIn.last | apply RowsIn.there | apply RowsIn.thereS)) _ (by omega)) | exact Sees.own (WRowsIn.mem (by repeat (first | exact WRowsIn.here | exact WRowsIn.last | apply WRowsIn.there | apply WRowsIn.thereS)) _ (by omega))) rfl (by first | (simp; done) | (rw [fl_length]; omega) | (rw [fl_length, dRow_length, Nat.mul_one]) | (rw [fl_length, dG_length, Nat.mul_one]) | (rw [hd_length, List.length_take, dX_length]; omega)) (by first | rfl | (rw [fl_length]; omega)) (by first | rfl | exact fl_scal _ | exact hd_scal _ _) (by first | rfl | exact fl_scal _) (by omega) (by omega)) ?_
            rintro ⟨a74, c74⟩
            refine VL.r (.inl rfl) rfl (by decide) (yr_fieldAddr rfl Try.underlying77 rfl rfl sz75_Dsn (by decide) rfl) ?_
            refine VL.s (.inl rfl) rfl (yc_store rfl sz75_Dsn rfl rfl (by repeat (first | exact UpdF.here | apply UpdF.there | apply UpdF.thereS)) (.inl ⟨rfl, rfl⟩) rfl (by first | exact Nat.le_of_ble_eq_true rfl | simp) (by decide) rfl) ?_
            rintro ⟨⟩
            refine VL.nil ?_
            refine VE.then_wp ?_
            refine V.region ?_
            refine VL.r (.inl rfl) rfl (by decide) (yr_fieldAddr rfl Try.underlying77 rfl rfl sz24_Dsn (by decide) rfl) ?_
            refine VL.q (.inl rfl) rfl (by decide) (yq_load rfl fb24_Dsn rfl (by first | exact Sees.root (by assumption) | exact Sees.own (by repeat (first | exact List.mem_cons_self | exact List.mem_append_left _ (by assumption) | apply List.mem_cons_of_mem | apply List.mem_append_right)) | exact Sees.root (hR _ (by omega)) | exact Sees.own (RowsIn.mem (by repeat (first | exact RowsIn.here | exact RowsIn.last | apply RowsIn.there | apply RowsIn.thereS)) _ (by omega)) | exact Sees.own (WRowsIn.mem (by repeat (first | exact WRowsIn.here | exact WRowsIn.last | apply WRowsIn.there | apply WRowsIn.thereS)) _ (by omega))) rfl) ?_
            refine VL.new1 (.inl rfl) rfl (by decide) (yn_lit rfl Try.underlying24 elt43_Dsn rfl (by decide) (.cons rfl .nil) (by first | (simp; done) | (simp [cn, cn1, cn0]; done)) rfl rfl rfl) ?_
            intro b78
            refine VL.c (.inl rfl) rfl (by decide) (yc_appendz 1 rfl rfl Try.underlying24 elt43_Dsn rfl rfl (by repeat (first | exact UpdF.here | apply UpdF.there | apply UpdF.thereS)) (by first | exact Sees.root (by assumption) | exact Sees.own (by repeat (first | exact List.mem_cons_self | exact List.mem_append_left _ (by assumption) | apply List.mem_cons_of_mem | apply List.mem_append_right)) | exact Sees.root (hR _ (by omega)) | exact Sees.own (RowsIn.mem (by repeat (first | exact RowsIn.here | exact RowsIn.last | apply RowsIn.there | apply RowsIn.thereS)) _ (by omega)) | exact Sees.own (WRowsIn.mem (by repeat (first | exact WRowsIn.here | exact WRowsIn.last | apply WRowsIn.there | apply WRowsIn.thereS)) _ (by omega))) rfl (by first | (simp; done) | (rw [fl_length]; omega) | (rw [fl_length, dRow_length, Nat.mul_one]) | (rw [fl_length, dG_length, Nat.mul_one]) | (rw [hd_length, List.length_take, dX_length]; omega)) (by first | rfl | (rw [fl_length]; omega)) (by first | rfl | exact fl_scal _ | exact hd_scal _ _) (by first | rfl | exact fl_scal _) (by omega) (by omega)) ?_
            rintro ⟨a79, c79⟩
            refine VL.r (.inl rfl) rfl (by decide) (yr_fieldAddr rfl Try.underlying77 rfl rfl sz24_Dsn (by decide) rfl) ?_
            refine VL.s (.inl rfl) rfl (yc_store rfl sz24_Dsn rfl rfl (by repeat (first | exact UpdF.here | apply UpdF.there | apply UpdF.thereS)) (.inl ⟨rfl, rfl⟩) rfl (by first | exact Nat.le_of_ble_eq_true rfl | simp) (by decide) rfl) ?_
            rintro ⟨⟩
            refine VL.nil ?_
            refine VE.block_normal ?_
            refine VE.then_wp ?_
            refine V.region ?_
            refine VL.r (.inl rfl) rfl (by decide) (yr_int rfl rfl rfl (.inl ⟨rfl, wrap_in (by omega)⟩)) ?_
            refine VL.r (.inl rfl) rfl (by decide) (yr_move rfl rfl) ?_
            refine VL.nil ?_
            refine VE.round (i + 1, upd g i (ai, ci), a74, c74, a79, c79) ?_ ?_ ?_ ?_ ?_
            · exact (.cons rfl .nil)
            · exact (.cons rfl (.cons rfl (.cons rfl (.cons rfl (.cons rfl (.cons rfl .nil))))))
            · exact (fun w1 hw => by
                have h9 := hw.sub ((List.sublist_cons_self _ _).trans (List.sublist_cons_self _ _))
                dsimp only
                refine Hp.snocRow (A := [_, _, _, _, _, _]) (k := i) (by rw [dX_length]; omega) (ai, ci) ?_
                rw [dX_get (by omega), ← hd_dX (by omega), ← dG_fl]
                exact h9.sub ((List.sublist_cons_self _ _).cons_cons _))
            · omega
            · (try dsimp only); omega
        · skip
          replace h6 := ic_lss' h6
          obtain rfl : i = vs.length := by omega
          have hbx := bulk_dX (ws := ws) (vs := vs) (way := (y1, y2, y3)) (by assumption) (by assumption)
          refine VX.own (O' := (⟨ar, hd g ((dX ws vs (y1, y2, y3))), cr * 1, 24⟩ :: ⟨ag, fl (dG vs.length), cg * 1, 43⟩ :: ⟨some ⟨b10, 0, none⟩, [.slice ar vs.length cr, .slice a35 xs.length c35, .slice ag vs.length cg], 3, 77⟩ :: ⟨a35, fl xs, c35 * 1, 43⟩ :: ⟨some ⟨b8, 0, none⟩, [.slice none 0 0, .slice none 0 0, .slice none 0 0], 3, 77⟩ :: ⟨some ⟨b6, 0, none⟩, [.float .f32 ((y1, y2, y3)).1, .float .f32 ((y1, y2, y3)).2.1, .float .f32 ((y1, y2, y3)).2.2], 3, 53⟩ :: rents 43 g ((dX ws vs (y1, y2, y3))))) (fun w1 hw => by rw [dX_take] at hw; exact hw) ?_
          refine V.exit ?_
          refine VE.then_exit ?_
          refine VE.then_exit ?_
          refine VE.block_here ?_
          refine VE.then_wp ?_
          refine V.seq ?_
          refine V.region ?_
          refine VL.q (.inl rfl) rfl (by decide) (yq_loadS rfl Try.underlying77 sz77_Dsn rfl (by first | exact Sees.root (by assumption) | exact Sees.own (by repeat (first | exact List.mem_cons_self | exact List.mem_append_left _ (by assumption) | apply List.mem_cons_of_mem | apply List.mem_append_right)) | exact Sees.root (hR _ (by omega)) | exact Sees.own (RowsIn.mem (by repeat (first | exact RowsIn.here | exact RowsIn.last | apply RowsIn.there | apply RowsIn.thereS)) _ (by omega)) | exact Sees.own (WRowsIn.mem (by repeat (first | exact WRowsIn.here | exact WRowsIn.last | apply WRowsIn.there | apply WRowsIn.thereS)) _ (by omega))) rfl rfl rfl) ?_
          rcases Bool.eq_false_or_eq_true (validD (dX ws vs (y1, y2, y3)) xs (dG vs.length)) with hm | hm
          · skip
            refine VL.q (.inl rfl) rfl (by decide) (yq_callf rfl known111_Dsn (.cons rfl .nil) (fun w hw => (c_ifDesignY (f := g) (xss := (dX ws vs (y1, y2, y3))) (ws := xs) (gs := dG vs.length) (by rw [dX_length]) rfl (by rw [dG_length]) (by first | exact Sees.root (by assumption) w hw | exact Sees.own (by repeat (first | exact List.mem_cons_self | exact List.mem_append_left _ (by assumption) | apply List.mem_cons_of_mem | apply List.mem_append_right)) w hw) (by first | exact Rws.root (by assumption) hw | exact Rws.own (by repeat (first | exact RowsIn.here | exact RowsIn.last | apply RowsIn.there | apply RowsIn.thereS)) hw) (by first | exact Sees.root (by assumption) w hw | exact Sees.own (by repeat (first | exact List.mem_cons_self | exact List.mem_append_left _ (by assumption) | apply List.mem_cons_of_mem | apply List.mem_append_right)) w hw) (by first | exact Sees.root (by assumption) w hw | exact Sees.own (by repeat (first | exact List.mem_cons_self | exact List.mem_append_left _ (by assumption) | apply List.mem_cons_of_mem | apply List.mem_append_right)) w hw) (by rw [dG_length]; omega) hm))) ?_
            refine VL.r (.inl rfl) rfl (by decide) (yr_extract rfl rfl rfl (by nofun)) ?_
            refine VL.r (.inl rfl) rfl (by decide) (yr_extract rfl rfl rfl (by nofun)) ?_
            refine VL.s (.inl rfl) rfl (yc_store rfl sz77_Dsn rfl rfl (by repeat (first | exact UpdF.here | apply UpdF.there | apply UpdF.thereS)) (.inr ⟨rfl, rfl⟩) rfl (by first | exact Nat.le_of_ble_eq_true rfl | simp) (by decide) rfl) ?_
            rintro ⟨⟩
            refine VL.r (.inl rfl) rfl (by decide) (yr_assign rfl rfl) ?_
            refine VL.nil ?_
            refine VE.then_wp ?_
            refine V.ret ?_
            refine retN rfl (.cons (rv_cellS rfl Try.underlying77 sz77_Dsn (by first | exact Sees.root (by assumption) | exact Sees.own (by repeat (first | exact List.mem_cons_self | exact List.mem_append_left _ (by assumption) | apply List.mem_cons_of_mem | apply List.mem_append_right)) | exact Sees.root (hR _ (by omega)) | exact Sees.own (RowsIn.mem (by repeat (first | exact RowsIn.here | exact RowsIn.last | apply RowsIn.there | apply RowsIn.thereS)) _ (by omega)) | exact Sees.own (WRowsIn.mem (by repeat (first | exact WRowsIn.here | exact WRowsIn.last | apply WRowsIn.there | apply WRowsIn.thereS)) _ (by omega))) rfl rfl rfl) (.cons (rv_tmp rfl (by nofun)) .nil)) (by nofun) (fun w1 hw => ?_)
            first
              | (have hs9 := ds_yes (ws := ws) (vs := vs) (way := (y1, y2, y3)) (xs := xs) (by assumption) (by assumption) (by assumption) hm
                 rw [dsX_yes hs9, dsW_yes hs9, dsG_yes hs9, hs9]
                 refine ⟨(((ar, cr), g), (a35, c35), (ag, cg)), by rw [dX_length, dG_length] <;> rfl, ?_⟩
                 exact (hw.pick (by apply Pick.four; all_goals (repeat (first | exact Rem.here | exact Rem.all | exact Rem.hereS | apply Rem.there | apply Rem.thereS)))).outs (List.Sublist.refl _))
              | (have hs9 : dsOk ws vs (y1, y2, y3) xs = false := by first | exact ds_no4 hm | exact ds_no1 (by assumption) | exact ds_no2 (by assumption) | exact ds_no3 (by omega) | exact ds_no4 (ds_notfin (i := i) (j := j) (by omega) (by omega) (by assumption))
                 rw [dsX_no hs9, dsW_no hs9, dsG_no hs9, hs9]
                 exact ⟨(((none, 0), fun _ => (none, 0)), (none, 0), (none, 0)), rfl, hw.below, by simp [fl, hd, rents, Ent.at], by simp [fl, hd, rents, Ent.apart]⟩)
          · skip
            refine VL.q (.inl rfl) rfl (by decide) (yq_callf rfl known111_Dsn (.cons rfl .nil) (fun w hw => (c_ifDesignN (f := g) (xss := (dX ws vs (y1, y2, y3))) (ws := xs) (gs := dG vs.length) (by rw [dX_length]) rfl (by rw [dG_length]) (by first | exact Sees.root (by assumption) w hw | exact Sees.own (by repeat (first | exact List.mem_cons_self | exact List.mem_append_left _ (by assumption) | apply List.mem_cons_of_mem | apply List.mem_append_right)) w hw) (by first | exact Rws.root (by assumption) hw | exact Rws.own (by repeat (first | exact RowsIn.here | exact RowsIn.last | apply RowsIn.there | apply RowsIn.thereS)) hw) (by first | exact Sees.root (by assumption) w hw | exact Sees.own (by repeat (first | exact List.mem_cons_self | exact List.mem_append_left _ (by assumption) | apply List.mem_cons_of_mem | apply List.mem_append_right)) w hw) (by first | exact Sees.root (by assumption) w hw | exact Sees.own (by repeat (first | exact List.mem_cons_self | exact List.mem_append_left _ (by assumption) | apply List.mem_cons_of_mem | apply List.mem_append_right)) w hw) (by rw [dG_length]; omega) hm))) ?_
            refine VL.r (.inl rfl) rfl (by decide) (yr_extract rfl rfl rfl (by nofun)) ?_
            refine VL.r (.inl rfl) rfl (by decide) (yr_extract rfl rfl rfl (by nofun)) ?_
            refine VL.s (.inl rfl) rfl (yc_store rfl sz77_Dsn rfl rfl (by repeat (first | exact UpdF.here | apply UpdF.there | apply UpdF.thereS)) (.inr ⟨rfl, rfl⟩) rfl (by first | exact Nat.le_of_ble_eq_true rfl | simp) (by decide) rfl) ?_
            rintro ⟨⟩
            refine VL.r (.inl rfl) rfl (by decide) (yr_assign rfl rfl) ?_
            refine VL.nil ?_
            refine VE.then_wp ?_
            refine V.ret ?_
            refine retN rfl (.cons (rv_cellS rfl Try.underlying77 sz77_Dsn (by first | exact Sees.root (by assumption) | exact Sees.own (by repeat (first | exact List.mem_cons_self | exact List.mem_append_left _ (by assumption) | apply List.mem_cons_of_mem | apply List.mem_append_right)) | exact Sees.root (hR _ (by omega)) | exact Sees.own (RowsIn.mem (by repeat (first | exact RowsIn.here | exact RowsIn.last | apply RowsIn.there | apply RowsIn.thereS)) _ (by omega)) | exact Sees.own (WRowsIn.mem (by repeat (first | exact WRowsIn.here | exact WRowsIn.last | apply WRowsIn.there | apply WRowsIn.thereS)) _ (by omega))) rfl rfl rfl) (.cons (rv_tmp rfl (by nofun)) .nil)) (by nofun) (fun w1 hw => ?_)
            first
              | (have hs9 := ds_yes (ws := ws) (vs := vs) (way := (y1, y2, y3)) (xs := xs) (by assumption) (by assumption) (by assumption) hm
                 rw [dsX_yes hs9, dsW_yes hs9, dsG_yes hs9, hs9]
                 refine ⟨(((ar, cr), g), (a35, c35), (ag, cg)), by rw [dX_length, dG_length] <;> rfl, ?_⟩
                 exact (hw.pick (by apply Pick.four; all_goals (repeat (first | exact Rem.here | exact Rem.all | exact Rem.hereS | apply Rem.there | apply Rem.thereS)))).outs (List.Sublist.refl _))
              | (have hs9 : dsOk ws vs (y1, y2, y3) xs = false := by first | exact ds_no4 hm | exact ds_no1 (by assumption) | exact ds_no2 (by assumption) | exact ds_no3 (by omega) | exact ds_no4 (ds_notfin (i := i) (j := j) (by omega) (by omega) (by assumption))
                 rw [dsX_no hs9, dsW_no hs9, dsG_no hs9, hs9]
                 exact ⟨(((none, 0), fun _ => (none, 0)), (none, 0), (none, 0)), rfl, hw.below, by simp [fl, hd, rents, Ent.at], by simp [fl, hd, rents, Ent.apart]⟩)

end Go.Proofs.Ytppfkajfekafaaa
