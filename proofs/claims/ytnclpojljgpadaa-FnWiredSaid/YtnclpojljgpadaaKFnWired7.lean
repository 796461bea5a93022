/- Own texts of this claim, merged: WOwn, WDsn, WLFlat, WSquare, WRidge, Rk. -/
import Derived.KernelRfl
import Derived.Test.YtnclpojljgpadaaKFnWired6
namespace Go.Proofs.Ytnclpojljgpadaa
open Go.RowKit
set_option linter.unusedVariables false
set_option linter.unusedSimpArgs false
set_option maxRecDepth 20000

theorem zero41_Own : (Try.prog.info? 41).bind (·.zero) = some (Value.agg #[Value.slice none 0 0, Value.slice none 0 0, Value.slice none 0 0]) := by kernel_rfl
theorem sz41_Own : (Try.prog.info? 41).map (·.size) = some 3 := by kernel_rfl
theorem known51_Own : Known Try.prog 51 := Known.mk' Try.func51 (by kernel_rfl)
theorem lay41_Own : Lay Try.prog 41 [Value.slice none 0 0, Value.slice none 0 0, Value.slice none 0 0] [(0, 1), (1, 1), (2, 1)] := Lay.mk' (by kernel_rfl) (by kernel_rfl)

theorem c_ifDesignY {w : World} {a a1 a2 : Option Addr} {c c1 c2 : Nat} {f : Nat → Option Addr × Nat} {xss : List (List Nat)} {ws gs : List Nat} {m m1 m2 : Nat} (em : m = xss.length) (em1 : m1 = ws.length) (em2 : m2 = gs.length) (hA : Cl w a (hd f xss)) (hR : Rws w f xss) (hW : Cl w a1 (fl ws)) (hG : Cl w a2 (fl gs)) (hsz : bulk xss + ws.length + gs.length ≤ 1050000) (hv : validD xss ws gs = true) : Pure Try.prog 30 [.agg #[.slice a m c, .slice a1 m1 c1, .slice a2 m2 c2]] w (.tuple #[.agg #[.slice a m c, .slice a1 m1 c1, .slice a2 m2 c2], .bool true]) := by
  subst em
  subst em1
  subst em2
  refine Pure.enter Try.func30 rfl Try.ntmps30 (Nat.le_of_ble_eq_true rfl) ?_
  refine V.seq ?_
  refine V.region ?_
  refine VL.new1 (.inl rfl) rfl (by decide) (yn_box rfl rfl (.inr ⟨rfl, rfl⟩)) ?_
  intro b1
  refine VL.new1 (.inl rfl) rfl (by decide) (yn_alloc rfl zero41_Own rfl) ?_
  intro b2
  refine VL.r (.inl rfl) rfl (by decide) (yr_assign (u := .bool false) rfl rfl) ?_
  refine VL.nil ?_
  refine VE.then_wp ?_
  refine V.seq ?_
  refine V.seq ?_
  refine V.region ?_
  refine VL.q (.inl rfl) rfl (by decide) (yq_loadS rfl Try.underlying41 sz41_Own rfl (by first | exact Sees.root (by assumption) | exact Sees.own (by repeat (first | exact List.mem_cons_self | exact List.mem_append_left _ (by assumption) | apply List.mem_cons_of_mem | apply List.mem_append_right)) | exact Sees.root (hR _ (by omega)) | exact Sees.own (RowsIn.mem (by repeat (first | exact RowsIn.here | exact RowsIn.last | apply RowsIn.there | apply RowsIn.thereS)) _ (by omega)) | exact Sees.own (WRowsIn.mem (by repeat (first | exact WRowsIn.here | exact WRowsIn.last | apply WRowsIn.there | apply WRowsIn.thereS)) _ (by omega))) rfl rfl rfl) ?_
  refine VL.q (.inl rfl) rfl (by decide) (yq_callf rfl known51_Own (.cons rfl .nil) (fun w hw => (c_implValid (by first | exact Sees.root (by assumption) w hw | exact Sees.own (by repeat (first | exact List.mem_cons_self | exact List.mem_append_left _ (by assumption) | apply List.mem_cons_of_mem | apply List.mem_append_right)) w hw) (by first | exact Rws.root (by assumption) hw | exact Rws.own (by repeat (first | exact RowsIn.here | exact RowsIn.last | apply RowsIn.there | apply RowsIn.thereS)) hw) (by first | exact Sees.root (by assumption) w hw | exact Sees.own (by repeat (first | exact List.mem_cons_self | exact List.mem_append_left _ (by assumption) | apply List.mem_cons_of_mem | apply List.mem_append_right)) w hw) (by first | exact Sees.root (by assumption) w hw | exact Sees.own (by repeat (first | exact List.mem_cons_self | exact List.mem_append_left _ (by assumption) | apply List.mem_cons_of_mem | apply List.mem_append_right)) w hw) (by omega)))) ?_
  refine VL.r (.inl rfl) rfl (by decide) (yr_not rfl rfl) ?_
  refine VL.nil ?_
  refine VE.then_wp ?_
  refine V.cond rfl (fun h1 => ?_) (fun h1 => ?_)
  · skip
    replace h1 := bnot_t h1
    rw [hv] at h1; cases h1
  · skip
    replace h1 := bnot_f h1
    refine V.skip ?_
    refine VE.then_wp ?_
    refine V.seq ?_
    refine V.region ?_
    refine VL.q (.inl rfl) rfl (by decide) (yq_loadS rfl Try.underlying41 sz41_Own rfl (by first | exact Sees.root (by assumption) | exact Sees.own (by repeat (first | exact List.mem_cons_self | exact List.mem_append_left _ (by assumption) | apply List.mem_cons_of_mem | apply List.mem_append_right)) | exact Sees.root (hR _ (by omega)) | exact Sees.own (RowsIn.mem (by repeat (first | exact RowsIn.here | exact RowsIn.last | apply RowsIn.there | apply RowsIn.thereS)) _ (by omega)) | exact Sees.own (WRowsIn.mem (by repeat (first | exact WRowsIn.here | exact WRowsIn.last | apply WRowsIn.there | apply WRowsIn.thereS)) _ (by omega))) rfl rfl rfl) ?_
    refine VL.s (.inl rfl) rfl (yc_store rfl sz41_Own rfl rfl (by repeat (first | exact UpdF.here | apply UpdF.there | apply UpdF.thereS)) (.inr ⟨rfl, rfl⟩) rfl (by first | exact Nat.le_of_ble_eq_true rfl | simp) (by decide) rfl) ?_
    rintro ⟨⟩
    refine VL.r (.inl rfl) rfl (by decide) (yr_assign (u := .bool true) rfl rfl) ?_
    refine VL.nil ?_
    refine VE.then_wp ?_
    refine V.ret ?_
    refine retN rfl (.cons (rv_cellS rfl Try.underlying41 sz41_Own (by first | exact Sees.root (by assumption) | exact Sees.own (by repeat (first | exact List.mem_cons_self | exact List.mem_append_left _ (by assumption) | apply List.mem_cons_of_mem | apply List.mem_append_right)) | exact Sees.root (hR _ (by omega)) | exact Sees.own (RowsIn.mem (by repeat (first | exact RowsIn.here | exact RowsIn.last | apply RowsIn.there | apply RowsIn.thereS)) _ (by omega)) | exact Sees.own (WRowsIn.mem (by repeat (first | exact WRowsIn.here | exact WRowsIn.last | apply WRowsIn.there | apply WRowsIn.thereS)) _ (by omega))) rfl rfl rfl) (.cons (rv_tmp rfl (by nofun)) .nil)) (by nofun) (fun w1 hw => ?_)
    exact ⟨rfl, hw.below⟩

theorem c_ifDesignN {w : World} {a a1 a2 : Option Addr} {c c1 c2 : Nat} {f : Nat → Option Addr × Nat} {xss : List (List Nat)} {ws gs : List Nat} {m m1 m2 : Nat} (em : m = xss.length) (em1 : m1 = ws.length) (em2 : m2 = gs.length) (hA : Cl w a (hd f xss)) (hR : Rws w f xss) (hW : Cl w a1 (fl ws)) (hG : Cl w a2 (fl gs)) (hsz : bulk xss + ws.length + gs.length ≤ 1050000) (hv : validD xss ws gs = false) : Pure Try.prog 30 [.agg #[.slice a m c, .slice a1 m1 c1, .slice a2 m2 c2]] w (.tuple #[.agg #[.slice none 0 0, .slice none 0 0, .slice none 0 0], .bool false]) := by
  subst em
  subst em1
  subst em2
  refine Pure.enter Try.func30 rfl Try.ntmps30 (Nat.le_of_ble_eq_true rfl) ?_
  refine V.seq ?_
  refine V.region ?_
  refine VL.new1 (.inl rfl) rfl (by decide) (yn_box rfl rfl (.inr ⟨rfl, rfl⟩)) ?_
  intro b1
  refine VL.new1 (.inl rfl) rfl (by decide) (yn_alloc rfl zero41_Own rfl) ?_
  intro b2
  refine VL.r (.inl rfl) rfl (by decide) (yr_assign (u := .bool false) rfl rfl) ?_
  refine VL.nil ?_
  refine VE.then_wp ?_
  refine V.seq ?_
  refine V.seq ?_
  refine V.region ?_
  refine VL.q (.inl rfl) rfl (by decide) (yq_loadS rfl Try.underlying41 sz41_Own rfl (by first | exact Sees.root (by assumption) | exact Sees.own (by repeat (first | exact List.mem_cons_self | exact List.mem_append_left _ (by assumption) | apply List.mem_cons_of_mem | apply List.mem_append_right)) | exact Sees.root (hR _ (by omega)) | exact Sees.own (RowsIn.mem (by repeat (first | exact RowsIn.here | exact RowsIn.last | apply RowsIn.there | apply RowsIn.thereS)) _ (by omega)) | exact Sees.own (WRowsIn.mem (by repeat (first | exact WRowsIn.here | exact WRowsIn.last | apply WRowsIn.there | apply WRowsIn.thereS)) _ (by omega))) rfl rfl rfl) ?_
  refine VL.q (.inl rfl) rfl (by decide) (yq_callf rfl known51_Own (.cons rfl .nil) (fun w hw => (c_implValid (by first | exact Sees.root (by assumption) w hw | exact Sees.own (by repeat (first | exact List.mem_cons_self | exact List.mem_append_left _ (by assumption) | apply List.mem_cons_of_mem | apply List.mem_append_right)) w hw) (by first | exact Rws.root (by assumption) hw | exact Rws.own (by repeat (first | exact RowsIn.here | exact RowsIn.last | apply RowsIn.there | apply RowsIn.thereS)) hw) (by first | exact Sees.root (by assumption) w hw | exact Sees.own (by repeat (first | exact List.mem_cons_self | exact List.mem_append_left _ (by assumption) | apply List.mem_cons_of_mem | apply List.mem_append_right)) w hw) (by first | exact Sees.root (by assumption) w hw | exact Sees.own (by repeat (first | exact List.mem_cons_self | exact List.mem_append_left _ (by assumption) | apply List.mem_cons_of_mem | apply List.mem_append_right)) w hw) (by omega)))) ?_
  refine VL.r (.inl rfl) rfl (by decide) (yr_not rfl rfl) ?_
  refine VL.nil ?_
  refine VE.then_wp ?_
  refine V.cond rfl (fun h1 => ?_) (fun h1 => ?_)
  · skip
    replace h1 := bnot_t h1
    refine V.seq ?_
    refine V.region ?_
    refine VL.r (.inl rfl) rfl (by decide) (yr_build rfl lay41_Own rfl .nil (by first | (simp; done) | (simp [vv]; done) | (simp [cn, cn1, cn0]; done)) rfl) ?_
    refine VL.s (.inl rfl) rfl (yc_store rfl sz41_Own rfl rfl (by repeat (first | exact UpdF.here | apply UpdF.there | apply UpdF.thereS)) (.inr ⟨rfl, rfl⟩) rfl (by first | exact Nat.le_of_ble_eq_true rfl | simp) (by decide) rfl) ?_
    rintro ⟨⟩
    refine VL.r (.inl rfl) rfl (by decide) (yr_assign (u := .bool false) rfl rfl) ?_
    refine VL.nil ?_
    refine VE.then_wp ?_
    refine V.ret ?_
    refine VE.then_ret ?_
    refine retN rfl (.cons (rv_cellS rfl Try.underlying41 sz41_Own (by first | exact Sees.root (by assumption) | exact Sees.own (by repeat (first | exact List.mem_cons_self | exact List.mem_append_left _ (by assumption) | apply List.mem_cons_of_mem | apply List.mem_append_right)) | exact Sees.root (hR _ (by omega)) | exact Sees.own (RowsIn.mem (by repeat (first | exact RowsIn.here | exact RowsIn.last | apply RowsIn.there | apply RowsIn.thereS)) _ (by omega)) | exact Sees.own (WRowsIn.mem (by repeat (first | exact WRowsIn.here | exact WRowsIn.last | apply WRowsIn.there | apply WRowsIn.thereS)) _ (by omega))) rfl rfl rfl) (.cons (rv_tmp rfl (by nofun)) .nil)) (by nofun) (fun w1 hw => ?_)
    exact ⟨rfl, hw.below⟩
  · skip
    replace h1 := bnot_f h1
    rw [hv] at h1; cases h1

end Go.Proofs.Ytnclpojljgpadaa


namespace Go.Proofs.Ytnclpojljgpadaa
open Go.RowKit
set_option linter.unusedVariables false
set_option linter.unusedSimpArgs false
set_option maxRecDepth 20000

theorem zero28_Dsn : (Try.prog.info? 28).bind (·.zero) = some (Value.agg #[Value.float .f32 0, Value.float .f32 0, Value.float .f32 0]) := by kernel_rfl
theorem sz54_Dsn : (Try.prog.info? 54).map (·.size) = some 3 := by kernel_rfl
theorem known38_Dsn : Known Try.prog 38 := Known.mk' Try.func38 (by kernel_rfl)
theorem sz28_Dsn : (Try.prog.info? 28).map (·.size) = some 3 := by kernel_rfl
theorem known48_Dsn : Known Try.prog 48 := Known.mk' Try.func48 (by kernel_rfl)
theorem known50_Dsn : Known Try.prog 50 := Known.mk' Try.func50 (by kernel_rfl)
theorem known49_Dsn : Known Try.prog 49 := Known.mk' Try.func49 (by kernel_rfl)
theorem zero41_Dsn : (Try.prog.info? 41).bind (·.zero) = some (Value.agg #[Value.slice none 0 0, Value.slice none 0 0, Value.slice none 0 0]) := by kernel_rfl
theorem known19_Dsn : Known Try.prog 19 := Known.mk' Try.func19 (by kernel_rfl)
theorem lay41_Dsn : Lay Try.prog 41 [Value.slice none 0 0, Value.slice none 0 0, Value.slice none 0 0] [(0, 1), (1, 1), (2, 1)] := Lay.mk' (by kernel_rfl) (by kernel_rfl)
theorem sz41_Dsn : (Try.prog.info? 41).map (·.size) = some 3 := by kernel_rfl
theorem known26_Dsn : Known Try.prog 26 := Known.mk' Try.func26 (by kernel_rfl)
theorem known27_Dsn : Known Try.prog 27 := Known.mk' Try.func27 (by kernel_rfl)
theorem elt26_Dsn : Elt Try.prog 26 [Value.float .f32 0] 4 := Elt.mk' (by kernel_rfl) (by decide)
theorem zero54_Dsn : (Try.prog.info? 54).bind (·.zero) = some (Value.agg #[Value.slice none 0 0, Value.bool false, Value.float .f32 0]) := by kernel_rfl
theorem sz30_Dsn : (Try.prog.info? 30).map (·.size) = some 1 := by kernel_rfl
theorem fb30_Dsn : flatB Try.prog 30 = true := by kernel_rfl
theorem sz4_Dsn : (Try.prog.info? 4).map (·.size) = some 1 := by kernel_rfl
theorem fb4_Dsn : flatB Try.prog 4 = true := by kernel_rfl
theorem lay54_Dsn : Lay Try.prog 54 [Value.slice none 0 0, Value.bool false, Value.float .f32 0] [(0, 1), (1, 1), (2, 1)] := Lay.mk' (by kernel_rfl) (by kernel_rfl)
theorem known28_Dsn : Known Try.prog 28 := Known.mk' Try.func28 (by kernel_rfl)
theorem known29_Dsn : Known Try.prog 29 := Known.mk' Try.func29 (by kernel_rfl)
theorem sz39_Dsn : (Try.prog.info? 39).map (·.size) = some 1 := by kernel_rfl
theorem fb39_Dsn : flatB Try.prog 39 = true := by kernel_rfl
theorem elt32_Dsn : Elt Try.prog 32 [Value.slice none 0 0] 24 := Elt.mk' (by kernel_rfl) (by decide)
theorem sz32_Dsn : (Try.prog.info? 32).map (·.size) = some 1 := by kernel_rfl
theorem fb32_Dsn : flatB Try.prog 32 = true := by kernel_rfl
theorem known30_Dsn : Known Try.prog 30 := Known.mk' Try.func30 (by kernel_rfl)
attribute [local irreducible] fop fcmp fconv sqrt32 fneg segF fieldS fieldI List.getD wireF inner3

theorem c_fieldOf2 {w : World} {a : Option Addr} {c : Nat} {ps : List V3} {cl : Bool} {cur : Nat} {p1 p2 p3 : Nat} (hA : Cl w a (vl ps)) (hlo : 2 ≤ ps.length) (hhi : ps.length ≤ 48) (hok : wireOk (ps, cl, cur) = true) (hp : fin3 (p1, p2, p3) = true) : Pure Try.prog 28 [.agg #[.slice a ps.length c, .bool cl, .float .f32 cur], vv (p1, p2, p3)] w (.tuple #[vv (ifV (wireF (ps, cl, cur) (p1, p2, p3))), .bool (fin3 (wireF (ps, cl, cur) (p1, p2, p3)))]) := by
  refine Pure.enter Try.func28 rfl Try.ntmps28 (Nat.le_of_ble_eq_true rfl) ?_
  refine V.seq ?_
  refine V.region ?_
  refine VL.new1 (.inl rfl) rfl (by decide) (yn_box rfl rfl (.inr ⟨rfl, rfl⟩)) ?_
  intro b2
  refine VL.new1 (.inl rfl) rfl (by decide) (yn_box rfl rfl (.inr ⟨rfl, rfl⟩)) ?_
  intro b3
  refine VL.new1 (.inl rfl) rfl (by decide) (yn_alloc rfl zero28_Dsn rfl) ?_
  intro b4
  refine VL.r (.inl rfl) rfl (by decide) (yr_assign (u := .bool false) rfl rfl) ?_
  refine VL.nil ?_
  refine VE.then_wp ?_
  refine V.seq ?_
  refine V.seq ?_
  refine V.region ?_
  refine VL.q (.inl rfl) rfl (by decide) (yq_loadS rfl Try.underlying54 sz54_Dsn rfl (by first | exact Sees.root (by assumption) | exact Sees.own (by repeat (first | exact List.mem_cons_self | exact List.mem_append_left _ (by assumption) | apply List.mem_cons_of_mem | apply List.mem_append_right)) | exact Sees.root (hR _ (by omega)) | exact Sees.own (RowsIn.mem (by repeat (first | exact RowsIn.here | exact RowsIn.last | apply RowsIn.there | apply RowsIn.thereS)) _ (by omega)) | exact Sees.own (WRowsIn.mem (by repeat (first | exact WRowsIn.here | exact WRowsIn.last | apply WRowsIn.there | apply WRowsIn.thereS)) _ (by omega))) rfl rfl rfl) ?_
  refine VL.q (.inl rfl) rfl (by decide) (yq_callf rfl known38_Dsn (.cons rfl .nil) (fun w hw => (c_implWire (by first | exact Sees.root (by assumption) w hw | exact Sees.own (by repeat (first | exact List.mem_cons_self | exact List.mem_append_left _ (by assumption) | apply List.mem_cons_of_mem | apply List.mem_append_right)) w hw) (by omega)))) ?_
  refine VL.r (.inl rfl) rfl (by decide) (yr_not rfl rfl) ?_
  refine VL.r (.inl rfl) rfl (by decide) (yr_move rfl rfl) ?_
  refine VX.split 9 _ rfl (fun h1 => ?_) (fun h1 => ?_)
  · skip
    replace h1 := bnot_t h1
    (rw [hok] at h1; cases h1)
  · skip
    replace h1 := bnot_f h1
    refine VL.q (.inr ⟨_, _, _, rfl, rfl, rfl⟩) rfl (by decide) (yq_loadS rfl Try.underlying28 sz28_Dsn rfl (by first | exact Sees.root (by assumption) | exact Sees.own (by repeat (first | exact List.mem_cons_self | exact List.mem_append_left _ (by assumption) | apply List.mem_cons_of_mem | apply List.mem_append_right)) | exact Sees.root (hR _ (by omega)) | exact Sees.own (RowsIn.mem (by repeat (first | exact RowsIn.here | exact RowsIn.last | apply RowsIn.there | apply RowsIn.thereS)) _ (by omega)) | exact Sees.own (WRowsIn.mem (by repeat (first | exact WRowsIn.here | exact WRowsIn.last | apply WRowsIn.there | apply WRowsIn.thereS)) _ (by omega))) rfl rfl rfl) ?_
    refine VL.q (.inr ⟨_, _, _, rfl, rfl, rfl⟩) rfl (by decide) (yq_callf rfl known48_Dsn (.cons rfl .nil) (fun w hw => c_fin3)) ?_
    refine VL.r (.inr ⟨_, _, _, rfl, rfl, rfl⟩) rfl (by decide) (yr_not rfl rfl) ?_
    refine VL.r (.inl rfl) rfl (by decide) (yr_pick_f rfl rfl rfl) ?_
    refine VL.nil ?_
    refine VE.then_wp ?_
    refine V.cond rfl (fun h2 => ?_) (fun h2 => ?_)
    · skip
      replace h2 := bnot_t h2
      (rw [hp] at h2; cases h2)
    · skip
      replace h2 := bnot_f h2
      refine V.skip ?_
      refine VE.then_wp ?_
      refine V.seq ?_
      refine V.region ?_
      refine VL.q (.inl rfl) rfl (by decide) (yq_loadS rfl Try.underlying54 sz54_Dsn rfl (by first | exact Sees.root (by assumption) | exact Sees.own (by repeat (first | exact List.mem_cons_self | exact List.mem_append_left _ (by assumption) | apply List.mem_cons_of_mem | apply List.mem_append_right)) | exact Sees.root (hR _ (by omega)) | exact Sees.own (RowsIn.mem (by repeat (first | exact RowsIn.here | exact RowsIn.last | apply RowsIn.there | apply RowsIn.thereS)) _ (by omega)) | exact Sees.own (WRowsIn.mem (by repeat (first | exact WRowsIn.here | exact WRowsIn.last | apply WRowsIn.there | apply WRowsIn.thereS)) _ (by omega))) rfl rfl rfl) ?_
      refine VL.q (.inl rfl) rfl (by decide) (yq_loadS rfl Try.underlying28 sz28_Dsn rfl (by first | exact Sees.root (by assumption) | exact Sees.own (by repeat (first | exact List.mem_cons_self | exact List.mem_append_left _ (by assumption) | apply List.mem_cons_of_mem | apply List.mem_append_right)) | exact Sees.root (hR _ (by omega)) | exact Sees.own (RowsIn.mem (by repeat (first | exact RowsIn.here | exact RowsIn.last | apply RowsIn.there | apply RowsIn.thereS)) _ (by omega)) | exact Sees.own (WRowsIn.mem (by repeat (first | exact WRowsIn.here | exact WRowsIn.last | apply WRowsIn.there | apply WRowsIn.thereS)) _ (by omega))) rfl rfl rfl) ?_
      refine VL.q (.inl rfl) rfl (by decide) (yq_callf rfl known50_Dsn (.cons rfl (.cons rfl .nil)) (fun w hw => (c_field (by first | exact Sees.root (by assumption) w hw | exact Sees.own (by repeat (first | exact List.mem_cons_self | exact List.mem_append_left _ (by assumption) | apply List.mem_cons_of_mem | apply List.mem_append_right)) w hw) (by omega) (by omega)))) ?_
      refine VL.q (.inl rfl) rfl (by decide) (yq_callf rfl known49_Dsn (.cons rfl .nil) (fun w hw => c_ifV)) ?_
      refine VL.r (.inl rfl) rfl (by decide) (yr_extract rfl rfl rfl (by nofun)) ?_
      refine VL.r (.inl rfl) rfl (by decide) (yr_extract rfl rfl rfl (by nofun)) ?_
      refine VL.s (.inl rfl) rfl (yc_store rfl sz28_Dsn rfl rfl (by repeat (first | exact UpdF.here | apply UpdF.there | apply UpdF.thereS)) (.inr ⟨rfl, rfl⟩) rfl (by first | exact Nat.le_of_ble_eq_true rfl | simp) (by decide) rfl) ?_
      rintro ⟨⟩
      refine VL.r (.inl rfl) rfl (by decide) (yr_assign rfl rfl) ?_
      refine VL.nil ?_
      refine VE.then_wp ?_
      refine V.ret ?_
      refine retN rfl (.cons (rv_cellS rfl Try.underlying28 sz28_Dsn (by first | exact Sees.root (by assumption) | exact Sees.own (by repeat (first | exact List.mem_cons_self | exact List.mem_append_left _ (by assumption) | apply List.mem_cons_of_mem | apply List.mem_append_right)) | exact Sees.root (hR _ (by omega)) | exact Sees.own (RowsIn.mem (by repeat (first | exact RowsIn.here | exact RowsIn.last | apply RowsIn.there | apply RowsIn.thereS)) _ (by omega)) | exact Sees.own (WRowsIn.mem (by repeat (first | exact WRowsIn.here | exact WRowsIn.last | apply WRowsIn.there | apply WRowsIn.thereS)) _ (by omega))) rfl rfl rfl) (.cons (rv_tmp rfl (by nofun)) .nil)) (by nofun) (fun w1 hw => ?_)
      exact ⟨rfl, hw.below⟩

theorem c_implDsn {w : World} {a : Option Addr} {c : Nat} {f : Nat → Option Addr × Nat} {ws : List Wr} {a' : Option Addr} {c' : Nat} {vs : List V3} {y1 y2 y3 : Nat} {b : Option Addr} {d : Nat} {xs : List Nat} (hA : Cl w a (whd f ws)) (hR : WRws w f ws) (hn : wbulk ws ≤ 1050000) (hV : Cl w a' (vl vs)) (hvn : vs.length ≤ 1050000) (hB : Cl w b (fl xs)) (hxn : xs.length ≤ 1050000) : New Try.prog 12 [.slice a ws.length c, .slice a' vs.length c', vv (y1, y2, y3), .slice b xs.length d] w (fun (p : ((Option Addr × Nat) × (Nat → Option Addr × Nat)) × (Option Addr × Nat) × (Option Addr × Nat)) => .tuple #[.agg #[.slice p.1.1.1 (dsX ws vs (y1, y2, y3) xs).length p.1.1.2, .slice p.2.1.1 (dsW ws vs (y1, y2, y3) xs).length p.2.1.2, .slice p.2.2.1 (dsG ws vs (y1, y2, y3) xs).length p.2.2.2], .bool (dsOk ws vs (y1, y2, y3) xs)]) (fun p => ⟨p.2.2.1, fl (dsG ws vs (y1, y2, y3) xs), p.2.2.2 * 1, 26⟩ :: ⟨p.2.1.1, fl (dsW ws vs (y1, y2, y3) xs), p.2.1.2 * 1, 26⟩ :: ⟨p.1.1.1, hd p.1.2 (dsX ws vs (y1, y2, y3) xs), p.1.1.2 * 1, 32⟩ :: rents 26 p.1.2 (dsX ws vs (y1, y2, y3) xs)) := by
  refine New.enter Try.func12 rfl Try.ntmps12 (Nat.le_of_ble_eq_true rfl) ?_
  have hwl : ws.length ≤ wbulk ws := by unfold wbulk; omega
  have hrw : ∀ k, k < ws.length → (ws.getD k zw).1.length ≤ 1050000 := fun k hk => by have := wbulk_row hk; omega
  refine V.seq ?_
  refine V.region ?_
  refine VL.new1 (.inl rfl) rfl (by decide) (yn_box rfl rfl (.inr ⟨rfl, rfl⟩)) ?_
  intro b6
  refine VL.new1 (.inl rfl) rfl (by decide) (yn_alloc rfl zero41_Dsn rfl) ?_
  intro b8
  refine VL.r (.inl rfl) rfl (by decide) (yr_assign (u := .bool false) rfl rfl) ?_
  refine VL.nil ?_
  refine VE.then_wp ?_
  refine V.seq ?_
  refine V.seq ?_
  refine V.region ?_
  refine VL.r (.inl rfl) rfl (by decide) (yr_move rfl rfl) ?_
  refine VL.q (.inl rfl) rfl (by decide) (yq_callf rfl known19_Dsn (.cons rfl .nil) (fun w hw => (c_areDW (by first | exact Sees.root (by assumption) w hw | exact Sees.own (by repeat (first | exact List.mem_cons_self | exact List.mem_append_left _ (by assumption) | apply List.mem_cons_of_mem | apply List.mem_append_right)) w hw) (by first | exact WRws.root (by assumption) hw | exact WRws.own (by repeat (first | exact WRowsIn.here | exact WRowsIn.last | apply WRowsIn.there | apply WRowsIn.thereS)) hw) (by omega)))) ?_
  refine VL.r (.inl rfl) rfl (by decide) (yr_not rfl rfl) ?_
  refine VL.r (.inl rfl) rfl (by decide) (yr_move rfl rfl) ?_
  refine VX.split 21 _ rfl (fun h1 => ?_) (fun h1 => ?_)
  · skip
    replace h1 := bnot_t h1
    refine VL.no rfl rfl rfl rfl rfl (by decide) ?_
    refine VL.no rfl rfl rfl rfl rfl (by decide) ?_
    refine VL.no rfl rfl rfl rfl rfl (by decide) ?_
    refine VL.r (.inl rfl) rfl (by decide) (yr_pick_t (u := .bool true) rfl rfl rfl) ?_
    refine VL.r (.inl rfl) rfl (by decide) (yr_move rfl rfl) ?_
    refine VL.no rfl rfl rfl rfl rfl (by decide) ?_
    refine VL.no rfl rfl rfl rfl rfl (by decide) ?_
    refine VL.no rfl rfl rfl rfl rfl (by decide) ?_
    refine VL.no rfl rfl rfl rfl rfl (by decide) ?_
    refine VL.no rfl rfl rfl rfl rfl (by decide) ?_
    refine VL.r (.inl rfl) rfl (by decide) (yr_pick_t (u := .bool true) rfl rfl rfl) ?_
    refine VL.nil ?_
    refine VE.then_wp ?_
    refine V.condT rfl ?_
    refine V.seq ?_
    refine V.region ?_
    refine VL.r (.inl rfl) rfl (by decide) (yr_build rfl lay41_Dsn rfl .nil (by first | (simp; done) | (simp [vv]; done) | (simp [cn, cn1, cn0]; done)) rfl) ?_
    refine VL.s (.inl rfl) rfl (yc_store rfl sz41_Dsn rfl rfl (by repeat (first | exact UpdF.here | apply UpdF.there | apply UpdF.thereS)) (.inr ⟨rfl, rfl⟩) rfl (by first | exact Nat.le_of_ble_eq_true rfl | simp) (by decide) rfl) ?_
    rintro ⟨⟩
    refine VL.r (.inl rfl) rfl (by decide) (yr_assign (u := .bool false) rfl rfl) ?_
    refine VL.nil ?_
    refine VE.then_wp ?_
    refine V.ret ?_
    refine VE.then_ret ?_
    refine retN rfl (.cons (rv_cellS rfl Try.underlying41 sz41_Dsn (by first | exact Sees.root (by assumption) | exact Sees.own (by repeat (first | exact List.mem_cons_self | exact List.mem_append_left _ (by assumption) | apply List.mem_cons_of_mem | apply List.mem_append_right)) | exact Sees.root (hR _ (by omega)) | exact Sees.own (RowsIn.mem (by repeat (first | exact RowsIn.here | exact RowsIn.last | apply RowsIn.there | apply RowsIn.thereS)) _ (by omega)) | exact Sees.own (WRowsIn.mem (by repeat (first | exact WRowsIn.here | exact WRowsIn.last | apply WRowsIn.there | apply WRowsIn.thereS)) _ (by omega))) rfl rfl rfl) (.cons (rv_tmp rfl (by nofun)) .nil)) (by nofun) (fun w1 hw => ?_)
    first
      | (have hs9 := ds_yes (ws := ws) (vs := vs) (way := (y1, y2, y3)) (xs := xs) (by assumption) (by assumption) (by assumption) hm
         rw [dsX_yes hs9, dsW_yes hs9, dsG_yes hs9, hs9]
         refine ⟨(((ar, cr), g), (a35, c35), (ag, cg)), by rw [dX_length, dG_length] <;> rfl, ?_⟩
         exact (hw.pick (by apply Pick.four; all_goals (repeat (first | exact Rem.here | exact Rem.all | exact Rem.hereS | apply Rem.there | apply Rem.thereS)))).outs (List.Sublist.refl _))
      | (have hs9 : dsOk ws vs (y1, y2, y3) xs = false := by first | exact ds_no4 hm | exact ds_no1 (by assumption) | exact ds_no2 (by assumption) | exact ds_no3 (by omega) | exact ds_no4 (ds_notfin (i := i) (j := j) (by omega) (by omega) (by assumption))
         rw [dsX_no hs9, dsW_no hs9, dsG_no hs9, hs9]
         exact ⟨(((none, 0), fun _ => (none, 0)), (none, 0), (none, 0)), rfl, hw.below, by simp [fl, hd, rents, Ent.at], by simp [fl, hd, rents, Ent.apart]⟩)
  · skip
    replace h1 := bnot_f h1
    refine VL.r (.inr ⟨_, _, _, rfl, rfl, rfl⟩) rfl (by decide) (yr_move rfl rfl) ?_
    refine VL.q (.inr ⟨_, _, _, rfl, rfl, rfl⟩) rfl (by decide) (yq_callf rfl known26_Dsn (.cons rfl .nil) (fun w hw => (c_areDP (by first | exact Sees.root (by assumption) w hw | exact Sees.own (by repeat (first | exact List.mem_cons_self | exact List.mem_append_left _ (by assumption) | apply List.mem_cons_of_mem | apply List.mem_append_right)) w hw) (by omega)))) ?_
    refine VL.r (.inr ⟨_, _, _, rfl, rfl, rfl⟩) rfl (by decide) (yr_not rfl rfl) ?_
    refine VL.r (.inl rfl) rfl (by decide) (yr_pick_f rfl rfl rfl) ?_
    refine VL.r (.inl rfl) rfl (by decide) (yr_move rfl rfl) ?_
    refine VX.split 26 _ rfl (fun h3 => ?_) (fun h3 => ?_)
    · skip
      replace h3 := bnot_t h3
      refine VL.no rfl rfl rfl rfl rfl (by decide) ?_
      refine VL.no rfl rfl rfl rfl rfl (by decide) ?_
      refine VL.no rfl rfl rfl rfl rfl (by decide) ?_
      refine VL.no rfl rfl rfl rfl rfl (by decide) ?_
      refine VL.no rfl rfl rfl rfl rfl (by decide) ?_
      refine VL.r (.inl rfl) rfl (by decide) (yr_pick_t (u := .bool true) rfl rfl rfl) ?_
      refine VL.nil ?_
      refine VE.then_wp ?_
      refine V.condT rfl ?_
      refine V.seq ?_
      refine V.region ?_
      refine VL.r (.inl rfl) rfl (by decide) (yr_build rfl lay41_Dsn rfl .nil (by first | (simp; done) | (simp [vv]; done) | (simp [cn, cn1, cn0]; done)) rfl) ?_
      refine VL.s (.inl rfl) rfl (yc_store rfl sz41_Dsn rfl rfl (by repeat (first | exact UpdF.here | apply UpdF.there | apply UpdF.thereS)) (.inr ⟨rfl, rfl⟩) rfl (by first | exact Nat.le_of_ble_eq_true rfl | simp) (by decide) rfl) ?_
      rintro ⟨⟩
      refine VL.r (.inl rfl) rfl (by decide) (yr_assign (u := .bool false) rfl rfl) ?_
      refine VL.nil ?_
      refine VE.then_wp ?_
      refine V.ret ?_
      refine VE.then_ret ?_
      refine retN rfl (.cons (rv_cellS rfl Try.underlying41 sz41_Dsn (by first | exact Sees.root (by assumption) | exact Sees.own (by repeat (first | exact List.mem_cons_self | exact List.mem_append_left _ (by assumption) | apply List.mem_cons_of_mem | apply List.mem_append_right)) | exact Sees.root (hR _ (by omega)) | exact Sees.own (RowsIn.mem (by repeat (first | exact RowsIn.here | exact RowsIn.last | apply RowsIn.there | apply RowsIn.thereS)) _ (by omega)) | exact Sees.own (WRowsIn.mem (by repeat (first | exact WRowsIn.here | exact WRowsIn.last | apply WRowsIn.there | apply WRowsIn.thereS)) _ (by omega))) rfl rfl rfl) (.cons (rv_tmp rfl (by nofun)) .nil)) (by nofun) (fun w1 hw => ?_)
      first
        | (have hs9 := ds_yes (ws := ws) (vs := vs) (way := (y1, y2, y3)) (xs := xs) (by assumption) (by assumption) (by assumption) hm
           rw [dsX_yes hs9, dsW_yes hs9, dsG_yes hs9, hs9]
           refine ⟨(((ar, cr), g), (a35, c35), (ag, cg)), by rw [dX_length, dG_length] <;> rfl, ?_⟩
           exact (hw.pick (by apply Pick.four; all_goals (repeat (first | exact Rem.here | exact Rem.all | exact Rem.hereS | apply Rem.there | apply Rem.thereS)))).outs (List.Sublist.refl _))
        | (have hs9 : dsOk ws vs (y1, y2, y3) xs = false := by first | exact ds_no4 hm | exact ds_no1 (by assumption) | exact ds_no2 (by assumption) | exact ds_no3 (by omega) | exact ds_no4 (ds_notfin (i := i) (j := j) (by omega) (by omega) (by assumption))
           rw [dsX_no hs9, dsW_no hs9, dsG_no hs9, hs9]
           exact ⟨(((none, 0), fun _ => (none, 0)), (none, 0), (none, 0)), rfl, hw.below, by simp [fl, hd, rents, Ent.at], by simp [fl, hd, rents, Ent.apart]⟩)
    · skip
      replace h3 := bnot_f h3
      refine VL.r (.inr ⟨_, _, _, rfl, rfl, rfl⟩) rfl (by decide) (yr_move rfl rfl) ?_
      refine VL.r (.inr ⟨_, _, _, rfl, rfl, rfl⟩) rfl (by decide) (yr_len rfl Try.underlying32 rfl) ?_
      refine VL.r (.inr ⟨_, _, _, rfl, rfl, rfl⟩) rfl (by decide) (yr_move rfl rfl) ?_
      refine VL.r (.inr ⟨_, _, _, rfl, rfl, rfl⟩) rfl (by decide) (yr_len rfl Try.underlying30 rfl) ?_
      refine VL.r (.inr ⟨_, _, _, rfl, rfl, rfl⟩) rfl (by decide) (yr_icmp rfl (.inr (.inl rfl)) rfl rfl) ?_
      refine VL.r (.inl rfl) rfl (by decide) (yr_pick_f rfl rfl rfl) ?_
      refine VL.nil ?_
      refine VE.then_wp ?_
      refine V.cond rfl (fun h5 => ?_) (fun h5 => ?_)
      · skip
        replace h5 := ic_neq h5
        refine V.seq ?_
        refine V.region ?_
        refine VL.r (.inl rfl) rfl (by decide) (yr_build rfl lay41_Dsn rfl .nil (by first | (simp; done) | (simp [vv]; done) | (simp [cn, cn1, cn0]; done)) rfl) ?_
        refine VL.s (.inl rfl) rfl (yc_store rfl sz41_Dsn rfl rfl (by repeat (first | exact UpdF.here | apply UpdF.there | apply UpdF.thereS)) (.inr ⟨rfl, rfl⟩) rfl (by first | exact Nat.le_of_ble_eq_true rfl | simp) (by decide) rfl) ?_
        rintro ⟨⟩
        refine VL.r (.inl rfl) rfl (by decide) (yr_assign (u := .bool false) rfl rfl) ?_
        refine VL.nil ?_
        refine VE.then_wp ?_
        refine V.ret ?_
        refine VE.then_ret ?_
        refine retN rfl (.cons (rv_cellS rfl Try.underlying41 sz41_Dsn (by first | exact Sees.root (by assumption) | exact Sees.own (by repeat (first | exact List.mem_cons_self | exact List.mem_append_left _ (by assumption) | apply List.mem_cons_of_mem | apply List.mem_append_right)) | exact Sees.root (hR _ (by omega)) | exact Sees.own (RowsIn.mem (by repeat (first | exact RowsIn.here | exact RowsIn.last | apply RowsIn.there | apply RowsIn.thereS)) _ (by omega)) | exact Sees.own (WRowsIn.mem (by repeat (first | exact WRowsIn.here | exact WRowsIn.last | apply WRowsIn.there | apply WRowsIn.thereS)) _ (by omega))) rfl rfl rfl) (.cons (rv_tmp rfl (by nofun)) .nil)) (by nofun) (fun w1 hw => ?_)
        first
          | (have hs9 := ds_yes (ws := ws) (vs := vs) (way := (y1, y2, y3)) (xs := xs) (by assumption) (by assumption) (by assumption) hm
             rw [dsX_yes hs9, dsW_yes hs9, dsG_yes hs9, hs9]
             refine ⟨(((ar, cr), g), (a35, c35), (ag, cg)), by rw [dX_length, dG_length] <;> rfl, ?_⟩
             exact (hw.pick (by apply Pick.four; all_goals (repeat (first | exact Rem.here | exact Rem.all | exact Rem.hereS | apply Rem.there | apply Rem.thereS)))).outs (List.Sublist.refl _))
          | (have hs9 : dsOk ws vs (y1, y2, y3) xs = false := by first | exact ds_no4 hm | exact ds_no1 (by assumption) | exact ds_no2 (by assumption) | exact ds_no3 (by omega) | exact ds_no4 (ds_notfin (i := i) (j := j) (by omega) (by omega) (by assumption))
             rw [dsX_no hs9, dsW_no hs9, dsG_no hs9, hs9]
             exact ⟨(((none, 0), fun _ => (none, 0)), (none, 0), (none, 0)), rfl, hw.below, by simp [fl, hd, rents, Ent.at], by simp [fl, hd, rents, Ent.apart]⟩)
      · skip
        replace h5 := ic_neq' h5
        have hp9 := dpOk_is (vs := vs) (by assumption)
        have hpf := hp9.2
        have hdw9 := dwOk_is (ws := ws) (by assumption)
        have hv := hdw9.2
        have hdw : ws.length ≤ 8 ∧ ws.all wireOk = true := by have := hdw9.2; unfold wiresOk at this; rw [Bool.and_eq_true, decide_eq_true_eq] at this; exact this
        have hvl := fun (k : Nat) (hk : k < ws.length) => wire_len hv hk
        have hxl : xs.length = vs.length := by omega
        refine V.skip ?_
        refine VE.then_wp ?_
        refine V.seq ?_
        refine V.region ?_
        refine VL.r (.inl rfl) rfl (by decide) (yr_move rfl rfl) ?_
        refine VL.new1 (.inl rfl) rfl (by decide) (yn_callf rfl known27_Dsn (.cons rfl .nil) (fun w hw => (c_cloneF (by first | exact Sees.root (by assumption) w hw | exact Sees.own (by repeat (first | exact List.mem_cons_self | exact List.mem_append_left _ (by assumption) | apply List.mem_cons_of_mem | apply List.mem_append_right)) w hw) (by omega)))) ?_
        rintro ⟨a35, c35⟩
        refine VL.r (.inl rfl) rfl (by decide) (yr_build rfl lay41_Dsn rfl (.cons rfl .nil) (by first | (simp; done) | (simp [vv]; done) | (simp [cn, cn1, cn0]; done)) rfl) ?_
        refine VL.new1 (.inl rfl) rfl (by decide) (yn_alloc rfl zero41_Dsn rfl) ?_
        intro b10
        refine VL.s (.inl rfl) rfl (yc_store rfl sz41_Dsn rfl rfl (by repeat (first | exact UpdF.here | apply UpdF.there | apply UpdF.thereS)) (.inr ⟨rfl, rfl⟩) rfl (by first | exact Nat.le_of_ble_eq_true rfl | simp) (by decide) rfl) ?_
        rintro ⟨⟩
        refine VL.nil ?_
        refine VE.then_wp ?_
        refine V.seq ?_
        refine V.seq ?_
        refine V.region ?_
        refine VL.r (.inl rfl) rfl (by decide) (yr_move rfl rfl) ?_
        refine VL.r (.inl rfl) rfl (by decide) (yr_len rfl Try.underlying30 rfl) ?_
        refine VL.r (.inl rfl) rfl (by decide) (yr_move (u := .int .i64 0) rfl rfl) ?_
        refine VL.nil ?_
        refine VE.then_wp ?_
        refine V.block ?_
        refine V.loopc (G := Nat × (Nat → Option Addr × Nat) × (Option Addr) × Nat × (Option Addr) × Nat) [(0, _), (6, _), (8, _), (10, _), (37, _), (38, _)] (fun ⟨i, g, ar, cr, ag, cg⟩ => i ≤ vs.length) (fun ⟨i, g, ar, cr, ag, cg⟩ => (⟨ar, hd g ((dX ws vs (y1, y2, y3)).take i), cr * 1, 32⟩ :: ⟨ag, fl (dG i), cg * 1, 26⟩ :: ⟨some ⟨b10, 0, none⟩, [.slice ar i cr, .slice a35 xs.length c35, .slice ag i cg], 3, 41⟩ :: ⟨a35, fl xs, c35 * 1, 26⟩ :: ⟨some ⟨b8, 0, none⟩, [.slice none 0 0, .slice none 0 0, .slice none 0 0], 3, 41⟩ :: ⟨some ⟨b6, 0, none⟩, [.float .f32 ((y1, y2, y3)).1, .float .f32 ((y1, y2, y3)).2.1, .float .f32 ((y1, y2, y3)).2.2], 3, 28⟩ :: rents 26 g ((dX ws vs (y1, y2, y3)).take i))) (fun ⟨i, g, ar, cr, ag, cg⟩ => [(39, .int .i64 (i : Int))]) (fun ⟨i, g, ar, cr, ag, cg⟩ => vs.length - i) (0, fun _ => (none, 0), none, 0, none, 0) (.cons rfl (.cons rfl (.cons rfl (.cons rfl (.cons rfl (.cons rfl .nil)))))) (.cons rfl .nil) ?_ ?_ ?_
        · exact (fun w1 hw => by
            have h9 := (hw.nil 26).nil 32
            try simp only [Nat.zero_add, List.nil_append] at h9
            exact h9)
        · exact (by omega)
        rintro ⟨i, g, ar, cr, ag, cg⟩ hi
        show V _ _ _ (⟨ar, hd g ((dX ws vs (y1, y2, y3)).take i), cr * 1, 32⟩ :: ⟨ag, fl (dG i), cg * 1, 26⟩ :: ⟨some ⟨b10, 0, none⟩, [.slice ar i cr, .slice a35 xs.length c35, .slice ag i cg], 3, 41⟩ :: ⟨a35, fl xs, c35 * 1, 26⟩ :: ⟨some ⟨b8, 0, none⟩, [.slice none 0 0, .slice none 0 0, .slice none 0 0], 3, 41⟩ :: ⟨some ⟨b6, 0, none⟩, [.float .f32 ((y1, y2, y3)).1, .float .f32 ((y1, y2, y3)).2.1, .float .f32 ((y1, y2, y3)).2.2], 3, 28⟩ :: rents 26 g ((dX ws vs (y1, y2, y3)).take i)) ([(39, .int .i64 (i : Int))] ++ [(0, _), (6, _), (8, _), (10, _), (37, _), (38, _)]) _ _
        refine V.seq ?_
        refine V.region ?_
        refine VL.r (.inl rfl) rfl (by decide) (yr_icmp rfl (.inr (.inr (.inl rfl))) rfl rfl) ?_
        refine VL.nil ?_
        refine VE.then_wp ?_
        refine V.seq ?_
        refine V.cond rfl (fun h6 => ?_) (fun h6 => ?_)
        · skip
          replace h6 := ic_lss h6
          refine V.skip ?_
          refine VE.then_wp ?_
          refine V.seq ?_
          refine V.block ?_
          refine V.seq ?_
          refine V.region ?_
          refine VL.q (.inl rfl) rfl (by decide) (yq_idxN (k := i) rfl Try.underlying30 sz28_Dsn rfl rfl (by first | exact Sees.root (by assumption) | exact Sees.own (by repeat (first | exact List.mem_cons_self | exact List.mem_append_left _ (by assumption) | apply List.mem_cons_of_mem | apply List.mem_append_right)) | exact Sees.root (hR _ (by omega)) | exact Sees.own (RowsIn.mem (by repeat (first | exact RowsIn.here | exact RowsIn.last | apply RowsIn.there | apply RowsIn.thereS)) _ (by omega)) | exact Sees.own (WRowsIn.mem (by repeat (first | exact WRowsIn.here | exact WRowsIn.last | apply WRowsIn.there | apply WRowsIn.thereS)) _ (by omega))) (by first | rfl | omega | (push_cast; rfl) | (push_cast; omega) | exact tmod_nat _ _) (by first | exact vl_length _ | exact whd_length _ _) (by decide) (by omega)) ?_
          refine VL.q (.inl rfl) rfl (by decide) (yq_loadV rfl Try.underlying28 sz28_Dsn rfl (by first | exact Sees.root (by assumption) | exact Sees.own (by repeat (first | exact List.mem_cons_self | exact List.mem_append_left _ (by assumption) | apply List.mem_cons_of_mem | apply List.mem_append_right)) | exact Sees.root (hR _ (by omega)) | exact Sees.own (RowsIn.mem (by repeat (first | exact RowsIn.here | exact RowsIn.last | apply RowsIn.there | apply RowsIn.thereS)) _ (by omega)) | exact Sees.own (WRowsIn.mem (by repeat (first | exact WRowsIn.here | exact WRowsIn.last | apply WRowsIn.there | apply WRowsIn.thereS)) _ (by omega))) (by omega)) ?_
          refine VL.new1 (.inl rfl) rfl (by decide) (yn_alloc rfl zero28_Dsn rfl) ?_
          intro b12
          refine VL.s (.inl rfl) rfl (yc_store rfl sz28_Dsn rfl rfl (by repeat (first | exact UpdF.here | apply UpdF.there | apply UpdF.thereS)) (.inr ⟨rfl, rfl⟩) rfl (by first | exact Nat.le_of_ble_eq_true rfl | simp) (by decide) rfl) ?_
          rintro ⟨⟩
          refine VL.nil ?_
          refine VE.then_wp ?_
          refine V.seq ?_
          refine V.region ?_
          refine VL.new1 (.inl rfl) rfl (by decide) (yn_lit rfl Try.underlying32 elt26_Dsn rfl (by decide) .nil (by first | (simp; done) | (simp [cn, cn1, cn0]; done)) rfl rfl rfl) ?_
          intro b43
          refine VL.r (.inl rfl) rfl (by decide) (yr_assign rfl rfl) ?_
          refine VL.nil ?_
          refine VE.then_wp ?_
          refine V.seq ?_
          refine V.seq ?_
          refine V.region ?_
          refine VL.r (.inl rfl) rfl (by decide) (yr_move rfl rfl) ?_
          refine VL.r (.inl rfl) rfl (by decide) (yr_len rfl Try.underlying24 rfl) ?_
          refine VL.r (.inl rfl) rfl (by decide) (yr_move (u := .int .i64 0) rfl rfl) ?_
          refine VL.nil ?_
          refine VE.then_wp ?_
          refine V.block ?_
          refine V.loopc (G := Nat × (Option Addr) × Nat) [(0, _), (6, _), (8, _), (10, _), (12, _), (37, _), (38, _), (39, _), (44, _), (45, _)] (fun ⟨j, ai, ci⟩ => j ≤ ws.length) (fun ⟨j, ai, ci⟩ => (⟨ai, fl (dRow ws (y1, y2, y3) (vs.getD i z3) j), ci * 1, 26⟩ :: ⟨some ⟨b12, 0, none⟩, [.float .f32 ((vs.getD i z3)).1, .float .f32 ((vs.getD i z3)).2.1, .float .f32 ((vs.getD i z3)).2.2], 3, 28⟩ :: (⟨ar, hd g ((dX ws vs (y1, y2, y3)).take i), cr * 1, 32⟩ :: ⟨ag, fl (dG i), cg * 1, 26⟩ :: ⟨some ⟨b10, 0, none⟩, [.slice ar i cr, .slice a35 xs.length c35, .slice ag i cg], 3, 41⟩ :: ⟨a35, fl xs, c35 * 1, 26⟩ :: ⟨some ⟨b8, 0, none⟩, [.slice none 0 0, .slice none 0 0, .slice none 0 0], 3, 41⟩ :: ⟨some ⟨b6, 0, none⟩, [.float .f32 ((y1, y2, y3)).1, .float .f32 ((y1, y2, y3)).2.1, .float .f32 ((y1, y2, y3)).2.2], 3, 28⟩ :: rents 26 g ((dX ws vs (y1, y2, y3)).take i)))) (fun ⟨j, ai, ci⟩ => [(13, .slice ai j ci), (46, .int .i64 (j : Int))]) (fun ⟨j, ai, ci⟩ => ws.length - j) (0, some ⟨b43, 0, none⟩, 0) (.cons rfl (.cons rfl (.cons rfl (.cons rfl (.cons rfl (.cons rfl (.cons rfl (.cons rfl (.cons rfl (.cons rfl .nil)))))))))) (.cons rfl (.cons rfl .nil)) ?_ ?_ ?_
          · exact (fun w1 hw => hw)
          · exact (by omega)
          rintro ⟨j, ai, ci⟩ hj
          show V _ _ _ (⟨ai, fl (dRow ws (y1, y2, y3) (vs.getD i z3) j), ci * 1, 26⟩ :: ⟨some ⟨b12, 0, none⟩, [.float .f32 ((vs.getD i z3)).1, .float .f32 ((vs.getD i z3)).2.1, .float .f32 ((vs.getD i z3)).2.2], 3, 28⟩ :: (⟨ar, hd g ((dX ws vs (y1, y2, y3)).take i), cr * 1, 32⟩ :: ⟨ag, fl (dG i), cg * 1, 26⟩ :: ⟨some ⟨b10, 0, none⟩, [.slice ar i cr, .slice a35 xs.length c35, .slice ag i cg], 3, 41⟩ :: ⟨a35, fl xs, c35 * 1, 26⟩ :: ⟨some ⟨b8, 0, none⟩, [.slice none 0 0, .slice none 0 0, .slice none 0 0], 3, 41⟩ :: ⟨some ⟨b6, 0, none⟩, [.float .f32 ((y1, y2, y3)).1, .float .f32 ((y1, y2, y3)).2.1, .float .f32 ((y1, y2, y3)).2.2], 3, 28⟩ :: rents 26 g ((dX ws vs (y1, y2, y3)).take i))) ([(13, .slice ai j ci), (46, .int .i64 (j : Int))] ++ [(0, _), (6, _), (8, _), (10, _), (12, _), (37, _), (38, _), (39, _), (44, _), (45, _)]) _ _
          have hwj := fun (h : j < ws.length) => wall_getD.1 hdw.2 j h
          refine V.seq ?_
          refine V.region ?_
          refine VL.r (.inl rfl) rfl (by decide) (yr_icmp rfl (.inr (.inr (.inl rfl))) rfl rfl) ?_
          refine VL.nil ?_
          refine VE.then_wp ?_
          refine V.seq ?_
          refine V.cond rfl (fun h7 => ?_) (fun h7 => ?_)
          · skip
            replace h7 := ic_lss h7
            refine V.skip ?_
            refine VE.then_wp ?_
            refine V.seq ?_
            refine V.block ?_
            refine V.seq ?_
            refine V.region ?_
            refine VL.q (.inl rfl) rfl (by decide) (yq_idxN (k := j) rfl Try.underlying24 sz54_Dsn rfl rfl (by first | exact Sees.root (by assumption) | exact Sees.own (by repeat (first | exact List.mem_cons_self | exact List.mem_append_left _ (by assumption) | apply List.mem_cons_of_mem | apply List.mem_append_right)) | exact Sees.root (hR _ (by omega)) | exact Sees.own (RowsIn.mem (by repeat (first | exact RowsIn.here | exact RowsIn.last | apply RowsIn.there | apply RowsIn.thereS)) _ (by omega)) | exact Sees.own (WRowsIn.mem (by repeat (first | exact WRowsIn.here | exact WRowsIn.last | apply WRowsIn.there | apply WRowsIn.thereS)) _ (by omega))) (by first | rfl | omega | (push_cast; rfl) | (push_cast; omega) | exact tmod_nat _ _) (by first | exact vl_length _ | exact whd_length _ _) (by decide) (by omega)) ?_
            refine VL.q (.inl rfl) rfl (by decide) (yq_loadW rfl Try.underlying54 sz54_Dsn rfl (by first | exact Sees.root (by assumption) | exact Sees.own (by repeat (first | exact List.mem_cons_self | exact List.mem_append_left _ (by assumption) | apply List.mem_cons_of_mem | apply List.mem_append_right)) | exact Sees.root (hR _ (by omega)) | exact Sees.own (RowsIn.mem (by repeat (first | exact RowsIn.here | exact RowsIn.last | apply RowsIn.there | apply RowsIn.thereS)) _ (by omega)) | exact Sees.own (WRowsIn.mem (by repeat (first | exact WRowsIn.here | exact WRowsIn.last | apply WRowsIn.there | apply WRowsIn.thereS)) _ (by omega))) (by omega)) ?_
            refine VL.new1 (.inl rfl) rfl (by decide) (yn_alloc rfl zero54_Dsn rfl) ?_
            intro b15
            refine VL.s (.inl rfl) rfl (yc_store rfl sz54_Dsn rfl rfl (by repeat (first | exact UpdF.here | apply UpdF.there | apply UpdF.thereS)) (.inr ⟨rfl, rfl⟩) rfl (by first | exact Nat.le_of_ble_eq_true rfl | simp) (by decide) rfl) ?_
            rintro ⟨⟩
            refine VL.nil ?_
            refine VE.then_wp ?_
            refine V.seq ?_
            refine V.region ?_
            refine VL.r (.inl rfl) rfl (by decide) (yr_fieldAddr rfl Try.underlying54 rfl rfl sz30_Dsn (by decide) rfl) ?_
            refine VL.q (.inl rfl) rfl (by decide) (yq_load rfl fb30_Dsn rfl (by first | exact Sees.root (by assumption) | exact Sees.own (by repeat (first | exact List.mem_cons_self | exact List.mem_append_left _ (by assumption) | apply List.mem_cons_of_mem | apply List.mem_append_right)) | exact Sees.root (hR _ (by omega)) | exact Sees.own (RowsIn.mem (by repeat (first | exact RowsIn.here | exact RowsIn.last | apply RowsIn.there | apply RowsIn.thereS)) _ (by omega)) | exact Sees.own (WRowsIn.mem (by repeat (first | exact WRowsIn.here | exact WRowsIn.last | apply WRowsIn.there | apply WRowsIn.thereS)) _ (by omega))) rfl) ?_
            refine VL.r (.inl rfl) rfl (by decide) (yr_fieldAddr rfl Try.underlying54 rfl rfl sz4_Dsn (by decide) rfl) ?_
            refine VL.q (.inl rfl) rfl (by decide) (yq_load rfl fb4_Dsn rfl (by first | exact Sees.root (by assumption) | exact Sees.own (by repeat (first | exact List.mem_cons_self | exact List.mem_append_left _ (by assumption) | apply List.mem_cons_of_mem | apply List.mem_append_right)) | exact Sees.root (hR _ (by omega)) | exact Sees.own (RowsIn.mem (by repeat (first | exact RowsIn.here | exact RowsIn.last | apply RowsIn.there | apply RowsIn.thereS)) _ (by omega)) | exact Sees.own (WRowsIn.mem (by repeat (first | exact WRowsIn.here | exact WRowsIn.last | apply WRowsIn.there | apply WRowsIn.thereS)) _ (by omega))) rfl) ?_
            refine VL.r (.inl rfl) rfl (by decide) (yr_build rfl lay54_Dsn rfl (.cons rfl (.cons rfl (.cons rfl .nil))) (by first | (simp; done) | (simp [vv]; done) | (simp [cn, cn1, cn0]; done)) rfl) ?_
            refine VL.q (.inl rfl) rfl (by decide) (yq_loadS rfl Try.underlying28 sz28_Dsn rfl (by first | exact Sees.root (by assumption) | exact Sees.own (by repeat (first | exact List.mem_cons_self | exact List.mem_append_left _ (by assumption) | apply List.mem_cons_of_mem | apply List.mem_append_right)) | exact Sees.root (hR _ (by omega)) | exact Sees.own (RowsIn.mem (by repeat (first | exact RowsIn.here | exact RowsIn.last | apply RowsIn.there | apply RowsIn.thereS)) _ (by omega)) | exact Sees.own (WRowsIn.mem (by repeat (first | exact WRowsIn.here | exact WRowsIn.last | apply WRowsIn.there | apply WRowsIn.thereS)) _ (by omega))) rfl rfl rfl) ?_
            refine VL.q (.inl rfl) rfl (by decide) (yq_callf rfl known28_Dsn (.cons rfl (.cons rfl .nil)) (fun w hw => (c_fieldOf2 (ps := (ws.getD j zw).1) (cl := (ws.getD j zw).2.1) (cur := 1065353216) (hR.root hw j (by omega)) (hvl j (by omega)).1 (hvl j (by omega)).2 (by have h8 := wire_is (hwj (by omega)); exact (wire_yes' (by omega) h8.2.2.1 fin_one).symm) (hpf i (by omega))))) ?_
            refine VL.r (.inl rfl) rfl (by decide) (yr_move rfl rfl) ?_
            refine VL.r (.inl rfl) rfl (by decide) (yr_extract rfl rfl rfl (by nofun)) ?_
            refine VL.r (.inl rfl) rfl (by decide) (yr_extract rfl rfl rfl (by nofun)) ?_
            refine VL.new1 (.inl rfl) rfl (by decide) (yn_alloc rfl zero28_Dsn rfl) ?_
            intro b16
            refine VL.s (.inl rfl) rfl (yc_store rfl sz28_Dsn rfl rfl (by repeat (first | exact UpdF.here | apply UpdF.there | apply UpdF.thereS)) (.inr ⟨rfl, rfl⟩) rfl (by first | exact Nat.le_of_ble_eq_true rfl | simp) (by decide) rfl) ?_
            rintro ⟨⟩
            refine VL.r (.inl rfl) rfl (by decide) (yr_assign rfl rfl) ?_
            refine VL.nil ?_
            refine VE.then_wp ?_
            refine V.seq ?_
            refine V.seq ?_
            refine V.region ?_
            refine VL.r (.inl rfl) rfl (by decide) (yr_move rfl rfl) ?_
            refine VL.r (.inl rfl) rfl (by decide) (yr_not rfl rfl) ?_
            refine VL.nil ?_
            refine VE.then_wp ?_
            refine V.cond rfl (fun h8 => ?_) (fun h8 => ?_)
            · skip
              replace h8 := bnot_t h8
              refine V.seq ?_
              refine V.region ?_
              refine VL.r (.inl rfl) rfl (by decide) (yr_build rfl lay41_Dsn rfl .nil (by first | (simp; done) | (simp [vv]; done) | (simp [cn, cn1, cn0]; done)) rfl) ?_
              refine VL.s (.inl rfl) rfl (yc_store rfl sz41_Dsn rfl rfl (by repeat (first | exact UpdF.here | apply UpdF.there | apply UpdF.thereS)) (.inr ⟨rfl, rfl⟩) rfl (by first | exact Nat.le_of_ble_eq_true rfl | simp) (by decide) rfl) ?_
              rintro ⟨⟩
              refine VL.r (.inl rfl) rfl (by decide) (yr_assign (u := .bool false) rfl rfl) ?_
              refine VL.nil ?_
              refine VE.then_wp ?_
              refine V.ret ?_
              refine VE.then_ret ?_
              refine VE.block_ret ?_
              refine VE.then_ret ?_
              refine VE.then_ret ?_
              refine VE.block_ret ?_
              refine VE.then_ret ?_
              refine VE.block_ret ?_
              refine VE.then_ret ?_
              refine VE.then_ret ?_
              refine VE.block_ret ?_
              refine VE.then_ret ?_
              refine retN rfl (.cons (rv_cellS rfl Try.underlying41 sz41_Dsn (by first | exact Sees.root (by assumption) | exact Sees.own (by repeat (first | exact List.mem_cons_self | exact List.mem_append_left _ (by assumption) | apply List.mem_cons_of_mem | apply List.mem_append_right)) | exact Sees.root (hR _ (by omega)) | exact Sees.own (RowsIn.mem (by repeat (first | exact RowsIn.here | exact RowsIn.last | apply RowsIn.there | apply RowsIn.thereS)) _ (by omega)) | exact Sees.own (WRowsIn.mem (by repeat (first | exact WRowsIn.here | exact WRowsIn.last | apply WRowsIn.there | apply WRowsIn.thereS)) _ (by omega))) rfl rfl rfl) (.cons (rv_tmp rfl (by nofun)) .nil)) (by nofun) (fun w1 hw => ?_)
              first
                | (have hs9 := ds_yes (ws := ws) (vs := vs) (way := (y1, y2, y3)) (xs := xs) (by assumption) (by assumption) (by assumption) hm
                   rw [dsX_yes hs9, dsW_yes hs9, dsG_yes hs9, hs9]
                   refine ⟨(((ar, cr), g), (a35, c35), (ag, cg)), by rw [dX_length, dG_length] <;> rfl, ?_⟩
                   exact (hw.pick (by apply Pick.four; all_goals (repeat (first | exact Rem.here | exact Rem.all | exact Rem.hereS | apply Rem.there | apply Rem.thereS)))).outs (List.Sublist.refl _))
                | (have hs9 : dsOk ws vs (y1, y2, y3) xs = false := by first | exact ds_no4 hm | exact ds_no1 (by assumption) | exact ds_no2 (by assumption) | exact ds_no3 (by omega) | exact ds_no4 (ds_notfin (i := i) (j := j) (by omega) (by omega) (by assumption))
                   rw [dsX_no hs9, dsW_no hs9, dsG_no hs9, hs9]
                   exact ⟨(((none, 0), fun _ => (none, 0)), (none, 0), (none, 0)), rfl, hw.below, by simp [fl, hd, rents, Ent.at], by simp [fl, hd, rents, Ent.apart]⟩)
            · skip
              replace h8 := bnot_f h8
              refine V.skip ?_
              refine VE.then_wp ?_
              refine V.region ?_
              refine VL.r (.inl rfl) rfl (by decide) (yr_move rfl rfl) ?_
              refine VL.q (.inl rfl) rfl (by decide) (yq_loadS rfl Try.underlying28 sz28_Dsn rfl (by first | exact Sees.root (by assumption) | exact Sees.own (by repeat (first | exact List.mem_cons_self | exact List.mem_append_left _ (by assumption) | apply List.mem_cons_of_mem | apply List.mem_append_right)) | exact Sees.root (hR _ (by omega)) | exact Sees.own (RowsIn.mem (by repeat (first | exact RowsIn.here | exact RowsIn.last | apply RowsIn.there | apply RowsIn.thereS)) _ (by omega)) | exact Sees.own (WRowsIn.mem (by repeat (first | exact WRowsIn.here | exact WRowsIn.last | apply WRowsIn.there | apply WRowsIn.thereS)) _ (by omega))) rfl rfl rfl) ?_
              refine VL.q (.inl rfl) rfl (by decide) (yq_loadS rfl Try.underlying28 sz28_Dsn rfl (by first | exact Sees.root (by assumption) | exact Sees.own (by repeat (first | exact List.mem_cons_self | exact List.mem_append_left _ (by assumption) | apply List.mem_cons_of_mem | apply List.mem_append_right)) | exact Sees.root (hR _ (by omega)) | exact Sees.own (RowsIn.mem (by repeat (first | exact RowsIn.here | exact RowsIn.last | apply RowsIn.there | apply RowsIn.thereS)) _ (by omega)) | exact Sees.own (WRowsIn.mem (by repeat (first | exact WRowsIn.here | exact WRowsIn.last | apply WRowsIn.there | apply WRowsIn.thereS)) _ (by omega))) rfl rfl rfl) ?_
              refine VL.q (.inl rfl) rfl (by decide) (yq_callf rfl known29_Dsn (.cons rfl (.cons rfl .nil)) (fun w hw => c_inner3)) ?_
              refine VL.new1 (.inl rfl) rfl (by decide) (yn_lit rfl Try.underlying32 elt26_Dsn rfl (by decide) (.cons rfl .nil) (by first | (simp; done) | (simp [cn, cn1, cn0]; done)) rfl rfl rfl) ?_
              intro b67
              refine VL.c (.inl rfl) rfl (by decide) (yc_appendz 1 rfl rfl Try.underlying32 elt26_Dsn rfl rfl (by repeat (first | exact UpdF.here | apply UpdF.there | apply UpdF.thereS)) (by first | exact Sees.root (by assumption) | exact Sees.own (by repeat (first | exact List.mem_cons_self | exact List.mem_append_left _ (by assumption) | apply List.mem_cons_of_mem | apply List.mem_append_right)) | exact Sees.root (hR _ (by omega)) | exact Sees.own (RowsIn.mem (by repeat (first | exact RowsIn.here | exact RowsIn.last | apply RowsIn.there | apply RowsIn.thereS)) _ (by omega)) | exact Sees.own (WRowsIn.mem (by repeat (first | exact WRowsIn.here | exact WRowsIn.last | apply WRowsIn.there | apply WRowsIn.thereS)) _ (by omega))) rfl (by first | (simp; done) | (rw [fl_length]; omega) | (rw [fl_length, dRow_length, Nat.mul_one]) | (rw [fl_length, dG_length, Nat.mul_one]) | (rw [hd_length, List.length_take, dX_length]; omega)) (by first | rfl | (rw [fl_length]; omega)) (by first | rfl | exact fl_scal _ | exact hd_scal _ _) (by first | rfl | exact fl_scal _) (by omega) (by omega)) ?_
              rintro ⟨a68, c68⟩
              refine VL.r (.inl rfl) rfl (by decide) (yr_assign rfl rfl) ?_
              refine VL.nil ?_
              refine VE.block_normal ?_
              refine VE.then_wp ?_
              refine V.region ?_
              refine VL.r (.inl rfl) rfl (by decide) (yr_int rfl rfl rfl (.inl ⟨rfl, wrap_in (by omega)⟩)) ?_
              refine VL.r (.inl rfl) rfl (by decide) (yr_move rfl rfl) ?_
              refine VL.nil ?_
              refine VE.round (j + 1, a68, c68) ?_ ?_ ?_ ?_ ?_
              · exact (.cons rfl (.cons rfl .nil))
              · exact (.cons rfl (.cons rfl (.cons rfl (.cons rfl (.cons rfl (.cons rfl (.cons rfl (.cons rfl (.cons rfl (.cons rfl .nil))))))))))
              · exact (fun w1 hw => by
                  have h9 := hw.sub (List.Sublist.trans (List.sublist_cons_self _ _) ((List.sublist_cons_self _ _).trans (List.sublist_cons_self _ _)))
                  dsimp only
                  rw [← dRow_fl' (by assumption)]
                  exact h9)
              · omega
              · (try dsimp only); omega
          · skip
            replace h7 := ic_lss' h7
            obtain rfl : j = ws.length := by omega
            refine V.exit ?_
            refine VE.then_exit ?_
            refine VE.then_exit ?_
            refine VE.block_here ?_
            refine VE.then_wp ?_
            refine V.seq ?_
            refine V.region ?_
            refine VL.r (.inl rfl) rfl (by decide) (yr_fieldAddr rfl Try.underlying41 rfl rfl sz39_Dsn (by decide) rfl) ?_
            refine VL.q (.inl rfl) rfl (by decide) (yq_load rfl fb39_Dsn rfl (by first | exact Sees.root (by assumption) | exact Sees.own (by repeat (first | exact List.mem_cons_self | exact List.mem_append_left _ (by assumption) | apply List.mem_cons_of_mem | apply List.mem_append_right)) | exact Sees.root (hR _ (by omega)) | exact Sees.own (RowsIn.mem (by repeat (first | exact RowsIn.here | exact RowsIn.last | apply RowsIn.there | apply RowsIn.thereS)) _ (by omega)) | exact Sees.own (WRowsIn.mem (by repeat (first | exact WRowsIn.here | exact WRowsIn.last | apply WRowsIn.there | apply WRowsIn.thereS)) _ (by omega))) rfl) ?_
            refine VL.r (.inl rfl) rfl (by decide) (yr_move rfl rfl) ?_
            refine VL.new1 (.inl rfl) rfl (by decide) (yn_lit rfl Try.underlying39 elt32_Dsn rfl (by decide) (.cons rfl .nil) (by first | (simp; done) | (simp [cn, cn1, cn0]; done)) rfl rfl rfl) ?_
            intro b73
            refine VL.c (.inl rfl) rfl (by decide) (yc_appendz 1 rfl rfl Try.underlying39 elt32_Dsn rfl rfl (by repeat (first | exact UpdF.here | apply UpdF.there | apply UpdF.thereS)) (by first | exact Sees.root (by assumption) | exact Sees.own (by repeat (first | exact List.mem_cons_self | exact List.mem_append_left _ (by assumption) | apply List.mem_cons_of_mem | apply List.mem_append_right)) | exact Sees.root (hR _ (by omega)) | exact Sees.own (RowsIn.mem (by repeat (first | exact RowsIn.here | exact RowsIn.last | apply RowsIn.there | apply RowsIn.thereS)) _ (by omega)) | exact Sees.own (WRowsIn.mem (by repeat (first | exact WRowsIn.here | exact WRowsIn.last | apply WRowsIn.there | apply WRowsIn.thereS)) _ (by omega))) rfl (by first | (simp; done) | (rw [fl_length]; omega) | (rw [fl_length, dRow_length, Nat.mul_one]) | (rw [fl_length, dG_length, Nat.mul_one]) | (rw [hd_length, List.length_take, dX_length]; omega)) (by first | rfl | (rw [fl_length]; omega)) (by first | rfl | exact fl_scal _ | exact hd_scal _ _) (by first | rfl | exact fl_scal _) (by omega) (by omega)) ?_
            rintro ⟨a74, c74⟩
            refine VL.r (.inl rfl) rfl (by decide) (yr_fieldAddr rfl Try.underlying41 rfl rfl sz39_Dsn (by decide) rfl) ?_
            refine VL.s (.inl rfl) rfl (yc_store rfl sz39_Dsn rfl rfl (by repeat (first | exact UpdF.here | apply UpdF.there | apply UpdF.thereS)) (.inl ⟨rfl, rfl⟩) rfl (by first | exact Nat.le_of_ble_eq_true rfl | simp) (by decide) rfl) ?_
            rintro ⟨⟩
            refine VL.nil ?_
            refine VE.then_wp ?_
            refine V.region ?_
            refine VL.r (.inl rfl) rfl (by decide) (yr_fieldAddr rfl Try.underlying41 rfl rfl sz32_Dsn (by decide) rfl) ?_
            refine VL.q (.inl rfl) rfl (by decide) (yq_load rfl fb32_Dsn rfl (by first | exact Sees.root (by assumption) | exact Sees.own (by repeat (first | exact List.mem_cons_self | exact List.mem_append_left _ (by assumption) | apply List.mem_cons_of_mem | apply List.mem_append_right)) | exact Sees.root (hR _ (by omega)) | exact Sees.own (RowsIn.mem (by repeat (first | exact RowsIn.here | exact RowsIn.last | apply RowsIn.there | apply RowsIn.thereS)) _ (by omega)) | exact Sees.own (WRowsIn.mem (by repeat (first | exact WRowsIn.here | exact WRowsIn.last | apply WRowsIn.there | apply WRowsIn.thereS)) _ (by omega))) rfl) ?_
            refine VL.new1 (.inl rfl) rfl (by decide) (yn_lit rfl Try.underlying32 elt26_Dsn rfl (by decide) (.cons rfl .nil) (by first | (simp; done) | (simp [cn, cn1, cn0]; done)) rfl rfl rfl) ?_
            intro b78
            refine VL.c (.inl rfl) rfl (by decide) (yc_appendz 1 rfl rfl Try.underlying32 elt26_Dsn rfl rfl (by repeat (first | exact UpdF.here | apply UpdF.there | apply UpdF.thereS)) (by first | exact Sees.root (by assumption) | exact Sees.own (by repeat (first | exact List.mem_cons_self | exact List.mem_append_left _ (by assumption) | apply List.mem_cons_of_mem | apply List.mem_append_right)) | exact Sees.root (hR _ (by omega)) | exact Sees.own (RowsIn.mem (by repeat (first | exact RowsIn.here | exact RowsIn.last | apply RowsIn.there | apply RowsIn.thereS)) _ (by omega)) | exact Sees.own (WRowsIn.mem (by repeat (first | exact WRowsIn.here | exact WRowsIn.last | apply WRowsIn.there | apply WRowsIn.thereS)) _ (by omega))) rfl (by first | (simp; done) | (rw [fl_length]; omega) | (rw [fl_length, dRow_length, Nat.mul_one]) | (rw [fl_length, dG_length, Nat.mul_one]) | (rw [hd_length, List.length_take, dX_length]; omega)) (by first | rfl | (rw [fl_length]; omega)) (by first | rfl | exact fl_scal _ | exact hd_scal _ _) (by first | rfl | exact fl_scal _) (by omega) (by omega)) ?_
            rintro ⟨a79, c79⟩
            refine VL.r (.inl rfl) rfl (by decide) (yr_fieldAddr rfl Try.underlying41 rfl rfl sz32_Dsn (by decide) rfl) ?_
            refine VL.s (.inl rfl) rfl (yc_store rfl sz32_Dsn rfl rfl (by repeat (first | exact UpdF.here | apply UpdF.there | apply UpdF.thereS)) (.inl ⟨rfl, rfl⟩) rfl (by first | exact Nat.le_of_ble_eq_true rfl | simp) (by decide) rfl) ?_
            rintro ⟨⟩
            refine VL.nil ?_
            refine VE.block_normal ?_
            refine VE.then_wp ?_
            refine V.region ?_
            refine VL.r (.inl rfl) rfl (by decide) (yr_int rfl rfl rfl (.inl ⟨rfl, wrap_in (by omega)⟩)) ?_
            refine VL.r (.inl rfl) rfl (by decide) (yr_move rfl rfl) ?_
            refine VL.nil ?_
            refine VE.round (i + 1, upd g i (ai, ci), a74, c74, a79, c79) ?_ ?_ ?_ ?_ ?_
            · exact (.cons rfl .nil)
            · exact (.cons rfl (.cons rfl (.cons rfl (.cons rfl (.cons rfl (.cons rfl .nil))))))
            · exact (fun w1 hw => by
                have h9 := hw.sub ((List.sublist_cons_self _ _).trans (List.sublist_cons_self _ _))
                dsimp only
                refine Hp.snocRow (A := [_, _, _, _, _, _]) (k := i) (by rw [dX_length]; omega) (ai, ci) ?_
                rw [dX_get (by omega), ← hd_dX (by omega), ← dG_fl]
                exact h9.sub ((List.sublist_cons_self _ _).cons_cons _))
            · omega
            · (try dsimp only); omega
        · skip
          replace h6 := ic_lss' h6
          obtain rfl : i = vs.length := by omega
          have hbx := bulk_dX (ws := ws) (vs := vs) (way := (y1, y2, y3)) (by assumption) (by assumption)
          refine VX.own (O' := (⟨ar, hd g ((dX ws vs (y1, y2, y3))), cr * 1, 32⟩ :: ⟨ag, fl (dG vs.length), cg * 1, 26⟩ :: ⟨some ⟨b10, 0, none⟩, [.slice ar vs.length cr, .slice a35 xs.length c35, .slice ag vs.length cg], 3, 41⟩ :: ⟨a35, fl xs, c35 * 1, 26⟩ :: ⟨some ⟨b8, 0, none⟩, [.slice none 0 0, .slice none 0 0, .slice none 0 0], 3, 41⟩ :: ⟨some ⟨b6, 0, none⟩, [.float .f32 ((y1, y2, y3)).1, .float .f32 ((y1, y2, y3)).2.1, .float .f32 ((y1, y2, y3)).2.2], 3, 28⟩ :: rents 26 g ((dX ws vs (y1, y2, y3))))) (fun w1 hw => by rw [dX_take] at hw; exact hw) ?_
          refine V.exit ?_
          refine VE.then_exit ?_
          refine VE.then_exit ?_
          refine VE.block_here ?_
          refine VE.then_wp ?_
          refine V.seq ?_
          refine V.region ?_
          refine VL.q (.inl rfl) rfl (by decide) (yq_loadS rfl Try.underlying41 sz41_Dsn rfl (by first | exact Sees.root (by assumption) | exact Sees.own (by repeat (first | exact List.mem_cons_self | exact List.mem_append_left _ (by assumption) | apply List.mem_cons_of_mem | apply List.mem_append_right)) | exact Sees.root (hR _ (by omega)) | exact Sees.own (RowsIn.mem (by repeat (first | exact RowsIn.here | exact RowsIn.last | apply RowsIn.there | apply RowsIn.thereS)) _ (by omega)) | exact Sees.own (WRowsIn.mem (by repeat (first | exact WRowsIn.here | exact WRowsIn.last | apply WRowsIn.there | apply WRowsIn.thereS)) _ (by omega))) rfl rfl rfl) ?_
          rcases Bool.eq_false_or_eq_true (validD (dX ws vs (y1, y2, y3)) xs (dG vs.length)) with hm | hm
          · skip
            refine VL.q (.inl rfl) rfl (by decide) (yq_callf rfl known30_Dsn (.cons rfl .nil) (fun w hw => (c_ifDesignY (f := g) (xss := (dX ws vs (y1, y2, y3))) (ws := xs) (gs := dG vs.length) (by rw [dX_length]) rfl (by rw [dG_length]) (by first | exact Sees.root (by assumption) w hw | exact Sees.own (by repeat (first | exact List.mem_cons_self | exact List.mem_append_left _ (by assumption) | apply List.mem_cons_of_mem | apply List.mem_append_right)) w hw) (by first | exact Rws.root (by assumption) hw | exact Rws.own (by repeat (first | exact RowsIn.here | exact RowsIn.last | apply RowsIn.there | apply RowsIn.thereS)) hw) (by first | exact Sees.root (by assumption) w hw | exact Sees.own (by repeat (first | exact List.mem_cons_self | exact List.mem_append_left _ (by assumption) | apply List.mem_cons_of_mem | apply List.mem_append_right)) w hw) (by first | exact Sees.root (by assumption) w hw | exact Sees.own (by repeat (first | exact List.mem_cons_self | exact List.mem_append_left _ (by assumption) | apply List.mem_cons_of_mem | apply List.mem_append_right)) w hw) (by rw [dG_length]; omega) hm))) ?_
            refine VL.r (.inl rfl) rfl (by decide) (yr_extract rfl rfl rfl (by nofun)) ?_
            refine VL.r (.inl rfl) rfl (by decide) (yr_extract rfl rfl rfl (by nofun)) ?_
            refine VL.s (.inl rfl) rfl (yc_store rfl sz41_Dsn rfl rfl (by repeat (first | exact UpdF.here | apply UpdF.there | apply UpdF.thereS)) (.inr ⟨rfl, rfl⟩) rfl (by first | exact Nat.le_of_ble_eq_true rfl | simp) (by decide) rfl) ?_
            rintro ⟨⟩
            refine VL.r (.inl rfl) rfl (by decide) (yr_assign rfl rfl) ?_
            refine VL.nil ?_
            refine VE.then_wp ?_
            refine V.ret ?_
            refine retN rfl (.cons (rv_cellS rfl Try.underlying41 sz41_Dsn (by first | exact Sees.root (by assumption) | exact Sees.own (by repeat (first | exact List.mem_cons_self | exact List.mem_append_left _ (by assumption) | apply List.mem_cons_of_mem | apply List.mem_append_right)) | exact Sees.root (hR _ (by omega)) | exact Sees.own (RowsIn.mem (by repeat (first | exact RowsIn.here | exact RowsIn.last | apply RowsIn.there | apply RowsIn.thereS)) _ (by omega)) | exact Sees.own (WRowsIn.mem (by repeat (first | exact WRowsIn.here | exact WRowsIn.last | apply WRowsIn.there | apply WRowsIn.thereS)) _ (by omega))) rfl rfl rfl) (.cons (rv_tmp rfl (by nofun)) .nil)) (by nofun) (fun w1 hw => ?_)
            first
              | (have hs9 := ds_yes (ws := ws) (vs := vs) (way := (y1, y2, y3)) (xs := xs) (by assumption) (by assumption) (by assumption) hm
                 rw [dsX_yes hs9, dsW_yes hs9, dsG_yes hs9, hs9]
                 refine ⟨(((ar, cr), g), (a35, c35), (ag, cg)), by rw [dX_length, dG_length] <;> rfl, ?_⟩
                 exact (hw.pick (by apply Pick.four; all_goals (repeat (first | exact Rem.here | exact Rem.all | exact Rem.hereS | apply Rem.there | apply Rem.thereS)))).outs (List.Sublist.refl _))
              | (have hs9 : dsOk ws vs (y1, y2, y3) xs = false := by first | exact ds_no4 hm | exact ds_no1 (by assumption) | exact ds_no2 (by assumption) | exact ds_no3 (by omega) | exact ds_no4 (ds_notfin (i := i) (j := j) (by omega) (by omega) (by assumption))
                 rw [dsX_no hs9, dsW_no hs9, dsG_no hs9, hs9]
                 exact ⟨(((none, 0), fun _ => (none, 0)), (none, 0), (none, 0)), rfl, hw.below, by simp [fl, hd, rents, Ent.at], by simp [fl, hd, rents, Ent.apart]⟩)
          · skip
            refine VL.q (.inl rfl) rfl (by decide) (yq_callf rfl known30_Dsn (.cons rfl .nil) (fun w hw => (c_ifDesignN (f := g) (xss := (dX ws vs (y1, y2, y3))) (ws := xs) (gs := dG vs.length) (by rw [dX_length]) rfl (by rw [dG_length]) (by first | exact Sees.root (by assumption) w hw | exact Sees.own (by repeat (first | exact List.mem_cons_self | exact List.mem_append_left _ (by assumption) | apply List.mem_cons_of_mem | apply List.mem_append_right)) w hw) (by first | exact Rws.root (by assumption) hw | exact Rws.own (by repeat (first | exact RowsIn.here | exact RowsIn.last | apply RowsIn.there | apply RowsIn.thereS)) hw) (by first | exact Sees.root (by assumption) w hw | exact Sees.own (by repeat (first | exact List.mem_cons_self | exact List.mem_append_left _ (by assumption) | apply List.mem_cons_of_mem | apply List.mem_append_right)) w hw) (by first | exact Sees.root (by assumption) w hw | exact Sees.own (by repeat (first | exact List.mem_cons_self | exact List.mem_append_left _ (by assumption) | apply List.mem_cons_of_mem | apply List.mem_append_right)) w hw) (by rw [dG_length]; omega) hm))) ?_
            refine VL.r (.inl rfl) rfl (by decide) (yr_extract rfl rfl rfl (by nofun)) ?_
            refine VL.r (.inl rfl) rfl (by decide) (yr_extract rfl rfl rfl (by nofun)) ?_
            refine VL.s (.inl rfl) rfl (yc_store rfl sz41_Dsn rfl rfl (by repeat (first | exact UpdF.here | apply UpdF.there | apply UpdF.thereS)) (.inr ⟨rfl, rfl⟩) rfl (by first | exact Nat.le_of_ble_eq_true rfl | simp) (by decide) rfl) ?_
            rintro ⟨⟩
            refine VL.r (.inl rfl) rfl (by decide) (yr_assign rfl rfl) ?_
            refine VL.nil ?_
            refine VE.then_wp ?_
            refine V.ret ?_
            refine retN rfl (.cons (rv_cellS rfl Try.underlying41 sz41_Dsn (by first | exact Sees.root (by assumption) | exact Sees.own (by repeat (first | exact List.mem_cons_self | exact List.mem_append_left _ (by assumption) | apply List.mem_cons_of_mem | apply List.mem_append_right)) | exact Sees.root (hR _ (by omega)) | exact Sees.own (RowsIn.mem (by repeat (first | exact RowsIn.here | exact RowsIn.last | apply RowsIn.there | apply RowsIn.thereS)) _ (by omega)) | exact Sees.own (WRowsIn.mem (by repeat (first | exact WRowsIn.here | exact WRowsIn.last | apply WRowsIn.there | apply WRowsIn.thereS)) _ (by omega))) rfl rfl rfl) (.cons (rv_tmp rfl (by nofun)) .nil)) (by nofun) (fun w1 hw => ?_)
            first
              | (have hs9 := ds_yes (ws := ws) (vs := vs) (way := (y1, y2, y3)) (xs := xs) (by assumption) (by assumption) (by assumption) hm
                 rw [dsX_yes hs9, dsW_yes hs9, dsG_yes hs9, hs9]
                 refine ⟨(((ar, cr), g), (a35, c35), (ag, cg)), by rw [dX_length, dG_length] <;> rfl, ?_⟩
                 exact (hw.pick (by apply Pick.four; all_goals (repeat (first | exact Rem.here | exact Rem.all | exact Rem.hereS | apply Rem.there | apply Rem.thereS)))).outs (List.Sublist.refl _))
              | (have hs9 : dsOk ws vs (y1, y2, y3) xs = false := by first | exact ds_no4 hm | exact ds_no1 (by assumption) | exact ds_no2 (by assumption) | exact ds_no3 (by omega) | exact ds_no4 (ds_notfin (i := i) (j := j) (by omega) (by omega) (by assumption))
                 rw [dsX_no hs9, dsW_no hs9, dsG_no hs9, hs9]
                 exact ⟨(((none, 0), fun _ => (none, 0)), (none, 0), (none, 0)), rfl, hw.below, by simp [fl, hd, rents, Ent.at], by simp [fl, hd, rents, Ent.apart]⟩)

end Go.Proofs.Ytnclpojljgpadaa


namespace Go.Proofs.Ytnclpojljgpadaa
open Go.RowKit
set_option linter.unusedVariables false
set_option linter.unusedSimpArgs false
set_option maxRecDepth 20000

theorem known19_LFlat : Known Try.prog 19 := Known.mk' Try.func19 (by kernel_rfl)
theorem known26_LFlat : Known Try.prog 26 := Known.mk' Try.func26 (by kernel_rfl)
theorem sz28_LFlat : (Try.prog.info? 28).map (·.size) = some 3 := by kernel_rfl
theorem zero28_LFlat : (Try.prog.info? 28).bind (·.zero) = some (Value.agg #[Value.float .f32 0, Value.float .f32 0, Value.float .f32 0]) := by kernel_rfl
theorem known33_LFlat : Known Try.prog 33 := Known.mk' Try.func33 (by kernel_rfl)
theorem known29_LFlat : Known Try.prog 29 := Known.mk' Try.func29 (by kernel_rfl)
attribute [local irreducible] fop fcmp fconv sqrt32 fneg segF fieldS fieldI List.getD

theorem c_implFlat {w : World} {a : Option Addr} {c : Nat} {f : Nat → Option Addr × Nat} {ws : List Wr} {a' : Option Addr} {c' : Nat} {vs : List V3} {y1 y2 y3 : Nat} (hA : Cl w a (whd f ws)) (hR : WRws w f ws) (hn : wbulk ws ≤ 1050000) (hV : Cl w a' (vl vs)) (hvn : vs.length ≤ 1050000) : Pure Try.prog 14 [.slice a ws.length c, .slice a' vs.length c', vv (y1, y2, y3)] w (flR ws vs (y1, y2, y3)) := by
  refine Pure.enter Try.func14 rfl Try.ntmps14 (Nat.le_of_ble_eq_true rfl) ?_
  have hwl : ws.length ≤ wbulk ws := by unfold wbulk; omega
  have hrw : ∀ k, k < ws.length → (ws.getD k zw).1.length ≤ 1050000 := fun k hk => by have := wbulk_row hk; omega
  refine V.seq ?_
  refine V.region ?_
  refine VL.new1 (.inl rfl) rfl (by decide) (yn_box rfl rfl (.inr ⟨rfl, rfl⟩)) ?_
  intro b5
  refine VL.r (.inl rfl) rfl (by decide) (yr_assign (u := .float .f32 0) rfl rfl) ?_
  refine VL.r (.inl rfl) rfl (by decide) (yr_assign (u := .bool false) rfl rfl) ?_
  refine VL.nil ?_
  refine VE.then_wp ?_
  refine V.seq ?_
  refine V.seq ?_
  refine V.region ?_
  refine VL.r (.inl rfl) rfl (by decide) (yr_move rfl rfl) ?_
  refine VL.q (.inl rfl) rfl (by decide) (yq_callf rfl known19_LFlat (.cons rfl .nil) (fun w hw => (c_areDW (by first | exact Sees.root (by assumption) w hw | exact Sees.own (by repeat (first | exact List.mem_cons_self | exact List.mem_append_left _ (by assumption) | apply List.mem_cons_of_mem | apply List.mem_append_right)) w hw) (by first | exact WRws.root (by assumption) hw | exact WRws.own (by repeat (first | exact WRowsIn.here | exact WRowsIn.last | apply WRowsIn.there | apply WRowsIn.thereS)) hw) (by omega)))) ?_
  refine VL.r (.inl rfl) rfl (by decide) (yr_not rfl rfl) ?_
  refine VL.r (.inl rfl) rfl (by decide) (yr_move rfl rfl) ?_
  refine VX.split 19 _ rfl (fun h1 => ?_) (fun h1 => ?_)
  · skip
    replace h1 := bnot_t h1
    refine VL.no rfl rfl rfl rfl rfl (by decide) ?_
    refine VL.no rfl rfl rfl rfl rfl (by decide) ?_
    refine VL.no rfl rfl rfl rfl rfl (by decide) ?_
    refine VL.r (.inl rfl) rfl (by decide) (yr_pick_t (u := .bool true) rfl rfl rfl) ?_
    refine VL.nil ?_
    refine VE.then_wp ?_
    refine V.condT rfl ?_
    refine V.seq ?_
    refine V.region ?_
    refine VL.r (.inl rfl) rfl (by decide) (yr_assign (u := .float .f32 0) rfl rfl) ?_
    refine VL.r (.inl rfl) rfl (by decide) (yr_assign (u := .bool false) rfl rfl) ?_
    refine VL.nil ?_
    refine VE.then_wp ?_
    refine V.ret ?_
    refine VE.then_ret ?_
    refine ret2 rfl rfl rfl (by nofun) (by nofun) (fun w1 hw => ?_)
    first
      | exact ⟨(flR_no1 (by assumption)).symm, hw.below⟩
      | exact ⟨(flR_no2 (by assumption)).symm, hw.below⟩
      | (obtain rfl : k = vs.length := by omega
         first
           | exact ⟨(flR_no3 (by assumption)).symm, hw.below⟩
           | exact ⟨(flR_yes (by assumption) (by assumption) (by assumption)).symm, hw.below⟩)
  · skip
    replace h1 := bnot_f h1
    refine VL.r (.inr ⟨_, _, _, rfl, rfl, rfl⟩) rfl (by decide) (yr_move rfl rfl) ?_
    refine VL.q (.inr ⟨_, _, _, rfl, rfl, rfl⟩) rfl (by decide) (yq_callf rfl known26_LFlat (.cons rfl .nil) (fun w hw => (c_areDP (by first | exact Sees.root (by assumption) w hw | exact Sees.own (by repeat (first | exact List.mem_cons_self | exact List.mem_append_left _ (by assumption) | apply List.mem_cons_of_mem | apply List.mem_append_right)) w hw) (by omega)))) ?_
    refine VL.r (.inr ⟨_, _, _, rfl, rfl, rfl⟩) rfl (by decide) (yr_not rfl rfl) ?_
    refine VL.r (.inl rfl) rfl (by decide) (yr_pick_f rfl rfl rfl) ?_
    refine VL.nil ?_
    refine VE.then_wp ?_
    refine V.cond rfl (fun h3 => ?_) (fun h3 => ?_)
    · skip
      replace h3 := bnot_t h3
      refine V.seq ?_
      refine V.region ?_
      refine VL.r (.inl rfl) rfl (by decide) (yr_assign (u := .float .f32 0) rfl rfl) ?_
      refine VL.r (.inl rfl) rfl (by decide) (yr_assign (u := .bool false) rfl rfl) ?_
      refine VL.nil ?_
      refine VE.then_wp ?_
      refine V.ret ?_
      refine VE.then_ret ?_
      refine ret2 rfl rfl rfl (by nofun) (by nofun) (fun w1 hw => ?_)
      first
        | exact ⟨(flR_no1 (by assumption)).symm, hw.below⟩
        | exact ⟨(flR_no2 (by assumption)).symm, hw.below⟩
        | (obtain rfl : k = vs.length := by omega
           first
             | exact ⟨(flR_no3 (by assumption)).symm, hw.below⟩
             | exact ⟨(flR_yes (by assumption) (by assumption) (by assumption)).symm, hw.below⟩)
    · skip
      replace h3 := bnot_f h3
      have hp := dpOk_is h3
      have hpf := hp.2
      have hdw := dwOk_is (ws := ws) (by assumption)
      have hv := hdw.2
      refine V.skip ?_
      refine VE.then_wp ?_
      refine V.seq ?_
      refine V.region ?_
      refine VL.r (.inl rfl) rfl (by decide) (yr_assign (u := .float .f32 0) rfl rfl) ?_
      refine VL.r (.inl rfl) rfl (by decide) (yr_assign (u := .float .f32 0) rfl rfl) ?_
      refine VL.r (.inl rfl) rfl (by decide) (yr_assign (u := .bool false) rfl rfl) ?_
      refine VL.nil ?_
      refine VE.then_wp ?_
      refine V.seq ?_
      refine V.seq ?_
      refine V.region ?_
      refine VL.r (.inl rfl) rfl (by decide) (yr_move rfl rfl) ?_
      refine VL.r (.inl rfl) rfl (by decide) (yr_len rfl Try.underlying30 rfl) ?_
      refine VL.r (.inl rfl) rfl (by decide) (yr_move (u := .int .i64 0) rfl rfl) ?_
      refine VL.nil ?_
      refine VE.then_wp ?_
      refine V.block ?_
      refine V.loopc (G := Nat) [(0, _), (5, _), (24, _), (25, _)] (fun (k : Nat) => k ≤ vs.length) (fun (k : Nat) => [⟨some ⟨b5, 0, none⟩, [.float .f32 ((y1, y2, y3)).1, .float .f32 ((y1, y2, y3)).2.1, .float .f32 ((y1, y2, y3)).2.2], 3, 28⟩]) (fun (k : Nat) => [(8, .float .f32 (flK ws vs (y1, y2, y3) k).1), (9, .float .f32 (flK ws vs (y1, y2, y3) k).2.1), (10, .bool (flK ws vs (y1, y2, y3) k).2.2), (26, .int .i64 (k : Int))]) (fun (k : Nat) => vs.length - k) 0 (.cons rfl (.cons rfl (.cons rfl (.cons rfl .nil)))) (.cons rfl (.cons rfl (.cons rfl (.cons rfl .nil)))) ?_ ?_ ?_
      · exact (fun w hw => hw)
      · exact (by omega)
      rintro k hk
      show V _ _ _ [⟨some ⟨b5, 0, none⟩, [.float .f32 ((y1, y2, y3)).1, .float .f32 ((y1, y2, y3)).2.1, .float .f32 ((y1, y2, y3)).2.2], 3, 28⟩] ([(8, .float .f32 (flK ws vs (y1, y2, y3) k).1), (9, .float .f32 (flK ws vs (y1, y2, y3) k).2.1), (10, .bool (flK ws vs (y1, y2, y3) k).2.2), (26, .int .i64 (k : Int))] ++ [(0, _), (5, _), (24, _), (25, _)]) _ _
      refine V.seq ?_
      refine V.region ?_
      refine VL.r (.inl rfl) rfl (by decide) (yr_icmp rfl (.inr (.inr (.inl rfl))) rfl rfl) ?_
      refine VL.nil ?_
      refine VE.then_wp ?_
      refine V.seq ?_
      refine V.cond rfl (fun h4 => ?_) (fun h4 => ?_)
      · skip
        replace h4 := ic_lss h4
        refine V.skip ?_
        refine VE.then_wp ?_
        refine V.seq ?_
        refine V.block ?_
        refine V.seq ?_
        refine V.region ?_
        refine VL.q (.inl rfl) rfl (by decide) (yq_idxN (k := k) rfl Try.underlying30 sz28_LFlat rfl rfl (by first | exact Sees.root (by assumption) | exact Sees.own (by repeat (first | exact List.mem_cons_self | exact List.mem_append_left _ (by assumption) | apply List.mem_cons_of_mem | apply List.mem_append_right)) | exact Sees.root (hR _ (by omega)) | exact Sees.own (RowsIn.mem (by repeat (first | exact RowsIn.here | exact RowsIn.last | apply RowsIn.there | apply RowsIn.thereS)) _ (by omega)) | exact Sees.own (WRowsIn.mem (by repeat (first | exact WRowsIn.here | exact WRowsIn.last | apply WRowsIn.there | apply WRowsIn.thereS)) _ (by omega))) (by first | rfl | omega | (push_cast; rfl) | (push_cast; omega) | exact tmod_nat _ _) (by exact vl_length _) (by decide) (by omega)) ?_
        refine VL.q (.inl rfl) rfl (by decide) (yq_loadV rfl Try.underlying28 sz28_LFlat rfl (by first | exact Sees.root (by assumption) | exact Sees.own (by repeat (first | exact List.mem_cons_self | exact List.mem_append_left _ (by assumption) | apply List.mem_cons_of_mem | apply List.mem_append_right)) | exact Sees.root (hR _ (by omega)) | exact Sees.own (RowsIn.mem (by repeat (first | exact RowsIn.here | exact RowsIn.last | apply RowsIn.there | apply RowsIn.thereS)) _ (by omega)) | exact Sees.own (WRowsIn.mem (by repeat (first | exact WRowsIn.here | exact WRowsIn.last | apply WRowsIn.there | apply WRowsIn.thereS)) _ (by omega))) (by omega)) ?_
        refine VL.new1 (.inl rfl) rfl (by decide) (yn_alloc rfl zero28_LFlat rfl) ?_
        intro b12
        refine VL.s (.inl rfl) rfl (yc_store rfl sz28_LFlat rfl rfl (by repeat (first | exact UpdF.here | apply UpdF.there | apply UpdF.thereS)) (.inr ⟨rfl, rfl⟩) rfl (by first | exact Nat.le_of_ble_eq_true rfl | simp) (by decide) rfl) ?_
        rintro ⟨⟩
        refine VL.nil ?_
        refine VE.then_wp ?_
        refine V.seq ?_
        refine V.region ?_
        refine VL.r (.inl rfl) rfl (by decide) (yr_move rfl rfl) ?_
        refine VL.q (.inl rfl) rfl (by decide) (yq_loadS rfl Try.underlying28 sz28_LFlat rfl (by first | exact Sees.root (by assumption) | exact Sees.own (by repeat (first | exact List.mem_cons_self | exact List.mem_append_left _ (by assumption) | apply List.mem_cons_of_mem | apply List.mem_append_right)) | exact Sees.root (hR _ (by omega)) | exact Sees.own (RowsIn.mem (by repeat (first | exact RowsIn.here | exact RowsIn.last | apply RowsIn.there | apply RowsIn.thereS)) _ (by omega)) | exact Sees.own (WRowsIn.mem (by repeat (first | exact WRowsIn.here | exact WRowsIn.last | apply WRowsIn.there | apply WRowsIn.thereS)) _ (by omega))) rfl rfl rfl) ?_
        refine VL.q (.inl rfl) rfl (by decide) (yq_callf rfl known33_LFlat (.cons rfl (.cons rfl .nil)) (fun w hw => (c_fieldAll (by first | exact Sees.root (by assumption) w hw | exact Sees.own (by repeat (first | exact List.mem_cons_self | exact List.mem_append_left _ (by assumption) | apply List.mem_cons_of_mem | apply List.mem_append_right)) w hw) (by first | exact WRws.root (by assumption) hw | exact WRws.own (by repeat (first | exact WRowsIn.here | exact WRowsIn.last | apply WRowsIn.there | apply WRowsIn.thereS)) hw) (by omega) (by assumption)))) ?_
        refine VL.r (.inl rfl) rfl (by decide) (yr_move rfl rfl) ?_
        refine VL.r (.inl rfl) rfl (by decide) (yr_extract rfl rfl rfl (by nofun)) ?_
        refine VL.r (.inl rfl) rfl (by decide) (yr_extract rfl rfl rfl (by nofun)) ?_
        refine VL.new1 (.inl rfl) rfl (by decide) (yn_alloc rfl zero28_LFlat rfl) ?_
        intro b13
        refine VL.s (.inl rfl) rfl (yc_store rfl sz28_LFlat rfl rfl (by repeat (first | exact UpdF.here | apply UpdF.there | apply UpdF.thereS)) (.inr ⟨rfl, rfl⟩) rfl (by first | exact Nat.le_of_ble_eq_true rfl | simp) (by decide) rfl) ?_
        rintro ⟨⟩
        refine VL.r (.inl rfl) rfl (by decide) (yr_assign rfl rfl) ?_
        refine VL.nil ?_
        refine VE.then_wp ?_
        refine V.seq ?_
        refine V.region ?_
        refine VL.q (.inl rfl) rfl (by decide) (yq_loadS rfl Try.underlying28 sz28_LFlat rfl (by first | exact Sees.root (by assumption) | exact Sees.own (by repeat (first | exact List.mem_cons_self | exact List.mem_append_left _ (by assumption) | apply List.mem_cons_of_mem | apply List.mem_append_right)) | exact Sees.root (hR _ (by omega)) | exact Sees.own (RowsIn.mem (by repeat (first | exact RowsIn.here | exact RowsIn.last | apply RowsIn.there | apply RowsIn.thereS)) _ (by omega)) | exact Sees.own (WRowsIn.mem (by repeat (first | exact WRowsIn.here | exact WRowsIn.last | apply WRowsIn.there | apply WRowsIn.thereS)) _ (by omega))) rfl rfl rfl) ?_
        refine VL.q (.inl rfl) rfl (by decide) (yq_loadS rfl Try.underlying28 sz28_LFlat rfl (by first | exact Sees.root (by assumption) | exact Sees.own (by repeat (first | exact List.mem_cons_self | exact List.mem_append_left _ (by assumption) | apply List.mem_cons_of_mem | apply List.mem_append_right)) | exact Sees.root (hR _ (by omega)) | exact Sees.own (RowsIn.mem (by repeat (first | exact RowsIn.here | exact RowsIn.last | apply RowsIn.there | apply RowsIn.thereS)) _ (by omega)) | exact Sees.own (WRowsIn.mem (by repeat (first | exact WRowsIn.here | exact WRowsIn.last | apply WRowsIn.there | apply WRowsIn.thereS)) _ (by omega))) rfl rfl rfl) ?_
        refine VL.q (.inl rfl) rfl (by decide) (yq_callf rfl known29_LFlat (.cons rfl (.cons rfl .nil)) (fun w hw => c_inner3)) ?_
        refine VL.r (.inl rfl) rfl (by decide) (yr_assign rfl rfl) ?_
        refine VL.nil ?_
        refine VE.then_wp ?_
        refine V.seq ?_
        refine V.seq ?_
        refine V.region ?_
        refine VL.r (.inl rfl) rfl (by decide) (yr_move rfl rfl) ?_
        refine VL.r (.inl rfl) rfl (by decide) (yr_not rfl rfl) ?_
        refine VL.r (.inl rfl) rfl (by decide) (yr_move rfl rfl) ?_
        refine VX.split 41 _ rfl (fun h5 => ?_) (fun h5 => ?_)
        · skip
          replace h5 := bnot_t h5
          refine VL.no rfl rfl rfl rfl rfl (by decide) ?_
          refine VL.no rfl rfl rfl rfl rfl (by decide) ?_
          refine VL.no rfl rfl rfl rfl rfl (by decide) ?_
          refine VL.r (.inl rfl) rfl (by decide) (yr_pick_t (u := .bool true) rfl rfl rfl) ?_
          refine VL.nil ?_
          refine VE.then_wp ?_
          refine V.condT rfl ?_
          refine V.exit ?_
          refine VE.then_exit ?_
          refine VE.block_here ?_
          refine VE.then_wp ?_
          refine V.region ?_
          refine VL.r (.inl rfl) rfl (by decide) (yr_int rfl rfl rfl (.inl ⟨rfl, wrap_in (by omega)⟩)) ?_
          refine VL.r (.inl rfl) rfl (by decide) (yr_move rfl rfl) ?_
          refine VL.nil ?_
          refine VE.round (k + 1) ?_ ?_ ?_ ?_ ?_
          · exact (.cons (congrArg (fun i => some (Value.float .f32 i)) (by rw [flK]; first | exact (flN_lo1 (and_tt (hpf k (by omega)) (by assumption)) (by assumption) (by assumption)).symm | exact (flN_lo2 (and_tt (hpf k (by omega)) (by assumption)) (by assumption) (by assumption)).symm | exact (flN_lo3 (and_tt (hpf k (by omega)) (by assumption)) (by assumption) (by assumption) (by assumption)).symm | exact congrArg (fun s : Nat × Nat × Bool => s.1) (flN_no1 (and_tt (hpf k (by omega)) (by assumption))).symm | exact congrArg (fun s : Nat × Nat × Bool => s.1) (flN_no2 (and_tt (hpf k (by omega)) (by assumption)) (by assumption)).symm)) (.cons (congrArg (fun i => some (Value.float .f32 i)) (by rw [flK]; first | exact (flN_hi1 (and_tt (hpf k (by omega)) (by assumption)) (by assumption) (by assumption)).symm | exact (flN_hi2 (and_tt (hpf k (by omega)) (by assumption)) (by assumption) (by assumption)).symm | exact (flN_hi3 (and_tt (hpf k (by omega)) (by assumption)) (by assumption) (by assumption) (by assumption)).symm | exact congrArg (fun s : Nat × Nat × Bool => s.2.1) (flN_no1 (and_tt (hpf k (by omega)) (by assumption))).symm | exact congrArg (fun s : Nat × Nat × Bool => s.2.1) (flN_no2 (and_tt (hpf k (by omega)) (by assumption)) (by assumption)).symm)) (.cons (congrArg (fun i => some (Value.bool i)) (by rw [flK]; first | exact (flN_f (and_tt (hpf k (by omega)) (by assumption)) (by assumption)).symm | exact congrArg (fun s : Nat × Nat × Bool => s.2.2) (flN_no1 (and_tt (hpf k (by omega)) (by assumption))).symm | exact congrArg (fun s : Nat × Nat × Bool => s.2.2) (flN_no2 (and_tt (hpf k (by omega)) (by assumption)) (by assumption)).symm)) (.cons rfl .nil))))
          · exact (.cons rfl (.cons rfl (.cons rfl (.cons rfl .nil))))
          · exact (fun w hw => hw.sub ((List.sublist_cons_self _ _).trans (List.sublist_cons_self _ _)))
          · omega
          · (try dsimp only); omega
        · skip
          replace h5 := bnot_f h5
          refine VL.r (.inr ⟨_, _, _, rfl, rfl, rfl⟩) rfl (by decide) (yr_move rfl rfl) ?_
          refine VL.r (.inr ⟨_, _, _, rfl, rfl, rfl⟩) rfl (by decide) (yr_move rfl rfl) ?_
          refine VL.r (.inr ⟨_, _, _, rfl, rfl, rfl⟩) rfl (by decide) (yr_fcmp rfl (.inr (.inl rfl)) rfl rfl) ?_
          refine VL.r (.inl rfl) rfl (by decide) (yr_pick_f rfl rfl rfl) ?_
          refine VL.nil ?_
          refine VE.then_wp ?_
          refine V.cond rfl (fun h7 => ?_) (fun h7 => ?_)
          · skip
            refine V.exit ?_
            refine VE.then_exit ?_
            refine VE.block_here ?_
            refine VE.then_wp ?_
            refine V.region ?_
            refine VL.r (.inl rfl) rfl (by decide) (yr_int rfl rfl rfl (.inl ⟨rfl, wrap_in (by omega)⟩)) ?_
            refine VL.r (.inl rfl) rfl (by decide) (yr_move rfl rfl) ?_
            refine VL.nil ?_
            refine VE.round (k + 1) ?_ ?_ ?_ ?_ ?_
            · exact (.cons (congrArg (fun i => some (Value.float .f32 i)) (by rw [flK]; first | exact (flN_lo1 (and_tt (hpf k (by omega)) (by assumption)) (by assumption) (by assumption)).symm | exact (flN_lo2 (and_tt (hpf k (by omega)) (by assumption)) (by assumption) (by assumption)).symm | exact (flN_lo3 (and_tt (hpf k (by omega)) (by assumption)) (by assumption) (by assumption) (by assumption)).symm | exact congrArg (fun s : Nat × Nat × Bool => s.1) (flN_no1 (and_tt (hpf k (by omega)) (by assumption))).symm | exact congrArg (fun s : Nat × Nat × Bool => s.1) (flN_no2 (and_tt (hpf k (by omega)) (by assumption)) (by assumption)).symm)) (.cons (congrArg (fun i => some (Value.float .f32 i)) (by rw [flK]; first | exact (flN_hi1 (and_tt (hpf k (by omega)) (by assumption)) (by assumption) (by assumption)).symm | exact (flN_hi2 (and_tt (hpf k (by omega)) (by assumption)) (by assumption) (by assumption)).symm | exact (flN_hi3 (and_tt (hpf k (by omega)) (by assumption)) (by assumption) (by assumption) (by assumption)).symm | exact congrArg (fun s : Nat × Nat × Bool => s.2.1) (flN_no1 (and_tt (hpf k (by omega)) (by assumption))).symm | exact congrArg (fun s : Nat × Nat × Bool => s.2.1) (flN_no2 (and_tt (hpf k (by omega)) (by assumption)) (by assumption)).symm)) (.cons (congrArg (fun i => some (Value.bool i)) (by rw [flK]; first | exact (flN_f (and_tt (hpf k (by omega)) (by assumption)) (by assumption)).symm | exact congrArg (fun s : Nat × Nat × Bool => s.2.2) (flN_no1 (and_tt (hpf k (by omega)) (by assumption))).symm | exact congrArg (fun s : Nat × Nat × Bool => s.2.2) (flN_no2 (and_tt (hpf k (by omega)) (by assumption)) (by assumption)).symm)) (.cons rfl .nil))))
            · exact (.cons rfl (.cons rfl (.cons rfl (.cons rfl .nil))))
            · exact (fun w hw => hw.sub ((List.sublist_cons_self _ _).trans (List.sublist_cons_self _ _)))
            · omega
            · (try dsimp only); omega
          · skip
            refine V.skip ?_
            refine VE.then_wp ?_
            refine V.seq ?_
            refine V.seq ?_
            refine V.region ?_
            refine VL.r (.inl rfl) rfl (by decide) (yr_move rfl rfl) ?_
            refine VL.r (.inl rfl) rfl (by decide) (yr_not rfl rfl) ?_
            refine VL.r (.inl rfl) rfl (by decide) (yr_move rfl rfl) ?_
            refine VX.split 48 _ rfl (fun h8 => ?_) (fun h8 => ?_)
            · skip
              replace h8 := bnot_t h8
              refine VL.no rfl rfl rfl rfl rfl (by decide) ?_
              refine VL.no rfl rfl rfl rfl rfl (by decide) ?_
              refine VL.no rfl rfl rfl rfl rfl (by decide) ?_
              refine VL.r (.inl rfl) rfl (by decide) (yr_pick_t (u := .bool true) rfl rfl rfl) ?_
              refine VL.nil ?_
              refine VE.then_wp ?_
              refine V.condT rfl ?_
              refine V.region ?_
              refine VL.r (.inl rfl) rfl (by decide) (yr_move rfl rfl) ?_
              refine VL.r (.inl rfl) rfl (by decide) (yr_assign rfl rfl) ?_
              refine VL.nil ?_
              refine VE.then_wp ?_
              refine V.seq ?_
              refine V.seq ?_
              refine V.region ?_
              refine VL.r (.inl rfl) rfl (by decide) (yr_move rfl rfl) ?_
              refine VL.r (.inl rfl) rfl (by decide) (yr_not rfl rfl) ?_
              refine VL.r (.inl rfl) rfl (by decide) (yr_move rfl rfl) ?_
              refine VX.split 56 _ rfl (fun h10 => ?_) (fun h10 => ?_)
              · skip
                replace h10 := bnot_t h10
                refine VL.no rfl rfl rfl rfl rfl (by decide) ?_
                refine VL.no rfl rfl rfl rfl rfl (by decide) ?_
                refine VL.no rfl rfl rfl rfl rfl (by decide) ?_
                refine VL.r (.inl rfl) rfl (by decide) (yr_pick_t (u := .bool true) rfl rfl rfl) ?_
                refine VL.nil ?_
                refine VE.then_wp ?_
                refine V.condT rfl ?_
                refine V.region ?_
                refine VL.r (.inl rfl) rfl (by decide) (yr_move rfl rfl) ?_
                refine VL.r (.inl rfl) rfl (by decide) (yr_assign rfl rfl) ?_
                refine VL.nil ?_
                refine VE.then_wp ?_
                refine V.region ?_
                refine VL.r (.inl rfl) rfl (by decide) (yr_assign (u := .bool true) rfl rfl) ?_
                refine VL.nil ?_
                refine VE.block_normal ?_
                refine VE.then_wp ?_
                refine V.region ?_
                refine VL.r (.inl rfl) rfl (by decide) (yr_int rfl rfl rfl (.inl ⟨rfl, wrap_in (by omega)⟩)) ?_
                refine VL.r (.inl rfl) rfl (by decide) (yr_move rfl rfl) ?_
                refine VL.nil ?_
                refine VE.round (k + 1) ?_ ?_ ?_ ?_ ?_
                · exact (.cons (congrArg (fun i => some (Value.float .f32 i)) (by rw [flK]; first | exact (flN_lo1 (and_tt (hpf k (by omega)) (by assumption)) (by assumption) (by assumption)).symm | exact (flN_lo2 (and_tt (hpf k (by omega)) (by assumption)) (by assumption) (by assumption)).symm | exact (flN_lo3 (and_tt (hpf k (by omega)) (by assumption)) (by assumption) (by assumption) (by assumption)).symm | exact congrArg (fun s : Nat × Nat × Bool => s.1) (flN_no1 (and_tt (hpf k (by omega)) (by assumption))).symm | exact congrArg (fun s : Nat × Nat × Bool => s.1) (flN_no2 (and_tt (hpf k (by omega)) (by assumption)) (by assumption)).symm)) (.cons (congrArg (fun i => some (Value.float .f32 i)) (by rw [flK]; first | exact (flN_hi1 (and_tt (hpf k (by omega)) (by assumption)) (by assumption) (by assumption)).symm | exact (flN_hi2 (and_tt (hpf k (by omega)) (by assumption)) (by assumption) (by assumption)).symm | exact (flN_hi3 (and_tt (hpf k (by omega)) (by assumption)) (by assumption) (by assumption) (by assumption)).symm | exact congrArg (fun s : Nat × Nat × Bool => s.2.1) (flN_no1 (and_tt (hpf k (by omega)) (by assumption))).symm | exact congrArg (fun s : Nat × Nat × Bool => s.2.1) (flN_no2 (and_tt (hpf k (by omega)) (by assumption)) (by assumption)).symm)) (.cons (congrArg (fun i => some (Value.bool i)) (by rw [flK]; first | exact (flN_f (and_tt (hpf k (by omega)) (by assumption)) (by assumption)).symm | exact congrArg (fun s : Nat × Nat × Bool => s.2.2) (flN_no1 (and_tt (hpf k (by omega)) (by assumption))).symm | exact congrArg (fun s : Nat × Nat × Bool => s.2.2) (flN_no2 (and_tt (hpf k (by omega)) (by assumption)) (by assumption)).symm)) (.cons rfl .nil))))
                · exact (.cons rfl (.cons rfl (.cons rfl (.cons rfl .nil))))
                · exact (fun w hw => hw.sub ((List.sublist_cons_self _ _).trans (List.sublist_cons_self _ _)))
                · omega
                · (try dsimp only); omega
              · skip
                replace h10 := bnot_f h10
                refine VL.r (.inr ⟨_, _, _, rfl, rfl, rfl⟩) rfl (by decide) (yr_move rfl rfl) ?_
                refine VL.r (.inr ⟨_, _, _, rfl, rfl, rfl⟩) rfl (by decide) (yr_move rfl rfl) ?_
                refine VL.r (.inr ⟨_, _, _, rfl, rfl, rfl⟩) rfl (by decide) (yr_fcmp rfl (.inr (.inr (.inr (.inr (.inl rfl))))) rfl rfl) ?_
                refine VL.r (.inl rfl) rfl (by decide) (yr_pick_f rfl rfl rfl) ?_
                refine VL.nil ?_
                refine VE.then_wp ?_
                refine V.cond rfl (fun h12 => ?_) (fun h12 => ?_)
                · skip
                  refine V.region ?_
                  refine VL.r (.inl rfl) rfl (by decide) (yr_move rfl rfl) ?_
                  refine VL.r (.inl rfl) rfl (by decide) (yr_assign rfl rfl) ?_
                  refine VL.nil ?_
                  refine VE.then_wp ?_
                  refine V.region ?_
                  refine VL.r (.inl rfl) rfl (by decide) (yr_assign (u := .bool true) rfl rfl) ?_
                  refine VL.nil ?_
                  refine VE.block_normal ?_
                  refine VE.then_wp ?_
                  refine V.region ?_
                  refine VL.r (.inl rfl) rfl (by decide) (yr_int rfl rfl rfl (.inl ⟨rfl, wrap_in (by omega)⟩)) ?_
                  refine VL.r (.inl rfl) rfl (by decide) (yr_move rfl rfl) ?_
                  refine VL.nil ?_
                  refine VE.round (k + 1) ?_ ?_ ?_ ?_ ?_
                  · exact (.cons (congrArg (fun i => some (Value.float .f32 i)) (by rw [flK]; first | exact (flN_lo1 (and_tt (hpf k (by omega)) (by assumption)) (by assumption) (by assumption)).symm | exact (flN_lo2 (and_tt (hpf k (by omega)) (by assumption)) (by assumption) (by assumption)).symm | exact (flN_lo3 (and_tt (hpf k (by omega)) (by assumption)) (by assumption) (by assumption) (by assumption)).symm | exact congrArg (fun s : Nat × Nat × Bool => s.1) (flN_no1 (and_tt (hpf k (by omega)) (by assumption))).symm | exact congrArg (fun s : Nat × Nat × Bool => s.1) (flN_no2 (and_tt (hpf k (by omega)) (by assumption)) (by assumption)).symm)) (.cons (congrArg (fun i => some (Value.float .f32 i)) (by rw [flK]; first | exact (flN_hi1 (and_tt (hpf k (by omega)) (by assumption)) (by assumption) (by assumption)).symm | exact (flN_hi2 (and_tt (hpf k (by omega)) (by assumption)) (by assumption) (by assumption)).symm | exact (flN_hi3 (and_tt (hpf k (by omega)) (by assumption)) (by assumption) (by assumption) (by assumption)).symm | exact congrArg (fun s : Nat × Nat × Bool => s.2.1) (flN_no1 (and_tt (hpf k (by omega)) (by assumption))).symm | exact congrArg (fun s : Nat × Nat × Bool => s.2.1) (flN_no2 (and_tt (hpf k (by omega)) (by assumption)) (by assumption)).symm)) (.cons (congrArg (fun i => some (Value.bool i)) (by rw [flK]; first | exact (flN_f (and_tt (hpf k (by omega)) (by assumption)) (by assumption)).symm | exact congrArg (fun s : Nat × Nat × Bool => s.2.2) (flN_no1 (and_tt (hpf k (by omega)) (by assumption))).symm | exact congrArg (fun s : Nat × Nat × Bool => s.2.2) (flN_no2 (and_tt (hpf k (by omega)) (by assumption)) (by assumption)).symm)) (.cons rfl .nil))))
                  · exact (.cons rfl (.cons rfl (.cons rfl (.cons rfl .nil))))
                  · exact (fun w hw => hw.sub ((List.sublist_cons_self _ _).trans (List.sublist_cons_self _ _)))
                  · omega
                  · (try dsimp only); omega
                · skip
                  refine V.skip ?_
                  refine VE.then_wp ?_
                  refine V.region ?_
                  refine VL.r (.inl rfl) rfl (by decide) (yr_assign (u := .bool true) rfl rfl) ?_
                  refine VL.nil ?_
                  refine VE.block_normal ?_
                  refine VE.then_wp ?_
                  refine V.region ?_
                  refine VL.r (.inl rfl) rfl (by decide) (yr_int rfl rfl rfl (.inl ⟨rfl, wrap_in (by omega)⟩)) ?_
                  refine VL.r (.inl rfl) rfl (by decide) (yr_move rfl rfl) ?_
                  refine VL.nil ?_
                  refine VE.round (k + 1) ?_ ?_ ?_ ?_ ?_
                  · exact (.cons (congrArg (fun i => some (Value.float .f32 i)) (by rw [flK]; first | exact (flN_lo1 (and_tt (hpf k (by omega)) (by assumption)) (by assumption) (by assumption)).symm | exact (flN_lo2 (and_tt (hpf k (by omega)) (by assumption)) (by assumption) (by assumption)).symm | exact (flN_lo3 (and_tt (hpf k (by omega)) (by assumption)) (by assumption) (by assumption) (by assumption)).symm | exact congrArg (fun s : Nat × Nat × Bool => s.1) (flN_no1 (and_tt (hpf k (by omega)) (by assumption))).symm | exact congrArg (fun s : Nat × Nat × Bool => s.1) (flN_no2 (and_tt (hpf k (by omega)) (by assumption)) (by assumption)).symm)) (.cons (congrArg (fun i => some (Value.float .f32 i)) (by rw [flK]; first | exact (flN_hi1 (and_tt (hpf k (by omega)) (by assumption)) (by assumption) (by assumption)).symm | exact (flN_hi2 (and_tt (hpf k (by omega)) (by assumption)) (by assumption) (by assumption)).symm | exact (flN_hi3 (and_tt (hpf k (by omega)) (by assumption)) (by assumption) (by assumption) (by assumption)).symm | exact congrArg (fun s : Nat × Nat × Bool => s.2.1) (flN_no1 (and_tt (hpf k (by omega)) (by assumption))).symm | exact congrArg (fun s : Nat × Nat × Bool => s.2.1) (flN_no2 (and_tt (hpf k (by omega)) (by assumption)) (by assumption)).symm)) (.cons (congrArg (fun i => some (Value.bool i)) (by rw [flK]; first | exact (flN_f (and_tt (hpf k (by omega)) (by assumption)) (by assumption)).symm | exact congrArg (fun s : Nat × Nat × Bool => s.2.2) (flN_no1 (and_tt (hpf k (by omega)) (by assumption))).symm | exact congrArg (fun s : Nat × Nat × Bool => s.2.2) (flN_no2 (and_tt (hpf k (by omega)) (by assumption)) (by assumption)).symm)) (.cons rfl .nil))))
                  · exact (.cons rfl (.cons rfl (.cons rfl (.cons rfl .nil))))
                  · exact (fun w hw => hw.sub ((List.sublist_cons_self _ _).trans (List.sublist_cons_self _ _)))
                  · omega
                  · (try dsimp only); omega
            · skip
              replace h8 := bnot_f h8
              refine VL.r (.inr ⟨_, _, _, rfl, rfl, rfl⟩) rfl (by decide) (yr_move rfl rfl) ?_
              refine VL.r (.inr ⟨_, _, _, rfl, rfl, rfl⟩) rfl (by decide) (yr_move rfl rfl) ?_
              refine VL.r (.inr ⟨_, _, _, rfl, rfl, rfl⟩) rfl (by decide) (yr_fcmp rfl (.inr (.inr (.inl rfl))) rfl rfl) ?_
              refine VL.r (.inl rfl) rfl (by decide) (yr_pick_f rfl rfl rfl) ?_
              refine VL.nil ?_
              refine VE.then_wp ?_
              refine V.cond rfl (fun h13 => ?_) (fun h13 => ?_)
              · skip
                refine V.region ?_
                refine VL.r (.inl rfl) rfl (by decide) (yr_move rfl rfl) ?_
                refine VL.r (.inl rfl) rfl (by decide) (yr_assign rfl rfl) ?_
                refine VL.nil ?_
                refine VE.then_wp ?_
                refine V.seq ?_
                refine V.seq ?_
                refine V.region ?_
                refine VL.r (.inl rfl) rfl (by decide) (yr_move rfl rfl) ?_
                refine VL.r (.inl rfl) rfl (by decide) (yr_not rfl rfl) ?_
                refine VL.r (.inl rfl) rfl (by decide) (yr_move rfl rfl) ?_
                refine VX.split 56 _ rfl (fun h14 => ?_) (fun h14 => ?_)
                · skip
                  replace h14 := bnot_t h14
                  refine VL.no rfl rfl rfl rfl rfl (by decide) ?_
                  refine VL.no rfl rfl rfl rfl rfl (by decide) ?_
                  refine VL.no rfl rfl rfl rfl rfl (by decide) ?_
                  refine VL.r (.inl rfl) rfl (by decide) (yr_pick_t (u := .bool true) rfl rfl rfl) ?_
                  refine VL.nil ?_
                  refine VE.then_wp ?_
                  refine V.condT rfl ?_
                  refine V.region ?_
                  refine VL.r (.inl rfl) rfl (by decide) (yr_move rfl rfl) ?_
                  refine VL.r (.inl rfl) rfl (by decide) (yr_assign rfl rfl) ?_
                  refine VL.nil ?_
                  refine VE.then_wp ?_
                  refine V.region ?_
                  refine VL.r (.inl rfl) rfl (by decide) (yr_assign (u := .bool true) rfl rfl) ?_
                  refine VL.nil ?_
                  refine VE.block_normal ?_
                  refine VE.then_wp ?_
                  refine V.region ?_
                  refine VL.r (.inl rfl) rfl (by decide) (yr_int rfl rfl rfl (.inl ⟨rfl, wrap_in (by omega)⟩)) ?_
                  refine VL.r (.inl rfl) rfl (by decide) (yr_move rfl rfl) ?_
                  refine VL.nil ?_
                  refine VE.round (k + 1) ?_ ?_ ?_ ?_ ?_
                  · exact (.cons (congrArg (fun i => some (Value.float .f32 i)) (by rw [flK]; first | exact (flN_lo1 (and_tt (hpf k (by omega)) (by assumption)) (by assumption) (by assumption)).symm | exact (flN_lo2 (and_tt (hpf k (by omega)) (by assumption)) (by assumption) (by assumption)).symm | exact (flN_lo3 (and_tt (hpf k (by omega)) (by assumption)) (by assumption) (by assumption) (by assumption)).symm | exact congrArg (fun s : Nat × Nat × Bool => s.1) (flN_no1 (and_tt (hpf k (by omega)) (by assumption))).symm | exact congrArg (fun s : Nat × Nat × Bool => s.1) (flN_no2 (and_tt (hpf k (by omega)) (by assumption)) (by assumption)).symm)) (.cons (congrArg (fun i => some (Value.float .f32 i)) (by rw [flK]; first | exact (flN_hi1 (and_tt (hpf k (by omega)) (by assumption)) (by assumption) (by assumption)).symm | exact (flN_hi2 (and_tt (hpf k (by omega)) (by assumption)) (by assumption) (by assumption)).symm | exact (flN_hi3 (and_tt (hpf k (by omega)) (by assumption)) (by assumption) (by assumption) (by assumption)).symm | exact congrArg (fun s : Nat × Nat × Bool => s.2.1) (flN_no1 (and_tt (hpf k (by omega)) (by assumption))).symm | exact congrArg (fun s : Nat × Nat × Bool => s.2.1) (flN_no2 (and_tt (hpf k (by omega)) (by assumption)) (by assumption)).symm)) (.cons (congrArg (fun i => some (Value.bool i)) (by rw [flK]; first | exact (flN_f (and_tt (hpf k (by omega)) (by assumption)) (by assumption)).symm | exact congrArg (fun s : Nat × Nat × Bool => s.2.2) (flN_no1 (and_tt (hpf k (by omega)) (by assumption))).symm | exact congrArg (fun s : Nat × Nat × Bool => s.2.2) (flN_no2 (and_tt (hpf k (by omega)) (by assumption)) (by assumption)).symm)) (.cons rfl .nil))))
                  · exact (.cons rfl (.cons rfl (.cons rfl (.cons rfl .nil))))
                  · exact (fun w hw => hw.sub ((List.sublist_cons_self _ _).trans (List.sublist_cons_self _ _)))
                  · omega
                  · (try dsimp only); omega
                · skip
                  replace h14 := bnot_f h14
                  refine VL.r (.inr ⟨_, _, _, rfl, rfl, rfl⟩) rfl (by decide) (yr_move rfl rfl) ?_
                  refine VL.r (.inr ⟨_, _, _, rfl, rfl, rfl⟩) rfl (by decide) (yr_move rfl rfl) ?_
                  refine VL.r (.inr ⟨_, _, _, rfl, rfl, rfl⟩) rfl (by decide) (yr_fcmp rfl (.inr (.inr (.inr (.inr (.inl rfl))))) rfl rfl) ?_
                  refine VL.r (.inl rfl) rfl (by decide) (yr_pick_f rfl rfl rfl) ?_
                  refine VL.nil ?_
                  refine VE.then_wp ?_
                  refine V.cond rfl (fun h16 => ?_) (fun h16 => ?_)
                  · skip
                    refine V.region ?_
                    refine VL.r (.inl rfl) rfl (by decide) (yr_move rfl rfl) ?_
                    refine VL.r (.inl rfl) rfl (by decide) (yr_assign rfl rfl) ?_
                    refine VL.nil ?_
                    refine VE.then_wp ?_
                    refine V.region ?_
                    refine VL.r (.inl rfl) rfl (by decide) (yr_assign (u := .bool true) rfl rfl) ?_
                    refine VL.nil ?_
                    refine VE.block_normal ?_
                    refine VE.then_wp ?_
                    refine V.region ?_
                    refine VL.r (.inl rfl) rfl (by decide) (yr_int rfl rfl rfl (.inl ⟨rfl, wrap_in (by omega)⟩)) ?_
                    refine VL.r (.inl rfl) rfl (by decide) (yr_move rfl rfl) ?_
                    refine VL.nil ?_
                    refine VE.round (k + 1) ?_ ?_ ?_ ?_ ?_
                    · exact (.cons (congrArg (fun i => some (Value.float .f32 i)) (by rw [flK]; first | exact (flN_lo1 (and_tt (hpf k (by omega)) (by assumption)) (by assumption) (by assumption)).symm | exact (flN_lo2 (and_tt (hpf k (by omega)) (by assumption)) (by assumption) (by assumption)).symm | exact (flN_lo3 (and_tt (hpf k (by omega)) (by assumption)) (by assumption) (by assumption) (by assumption)).symm | exact congrArg (fun s : Nat × Nat × Bool => s.1) (flN_no1 (and_tt (hpf k (by omega)) (by assumption))).symm | exact congrArg (fun s : Nat × Nat × Bool => s.1) (flN_no2 (and_tt (hpf k (by omega)) (by assumption)) (by assumption)).symm)) (.cons (congrArg (fun i => some (Value.float .f32 i)) (by rw [flK]; first | exact (flN_hi1 (and_tt (hpf k (by omega)) (by assumption)) (by assumption) (by assumption)).symm | exact (flN_hi2 (and_tt (hpf k (by omega)) (by assumption)) (by assumption) (by assumption)).symm | exact (flN_hi3 (and_tt (hpf k (by omega)) (by assumption)) (by assumption) (by assumption) (by assumption)).symm | exact congrArg (fun s : Nat × Nat × Bool => s.2.1) (flN_no1 (and_tt (hpf k (by omega)) (by assumption))).symm | exact congrArg (fun s : Nat × Nat × Bool => s.2.1) (flN_no2 (and_tt (hpf k (by omega)) (by assumption)) (by assumption)).symm)) (.cons (congrArg (fun i => some (Value.bool i)) (by rw [flK]; first | exact (flN_f (and_tt (hpf k (by omega)) (by assumption)) (by assumption)).symm | exact congrArg (fun s : Nat × Nat × Bool => s.2.2) (flN_no1 (and_tt (hpf k (by omega)) (by assumption))).symm | exact congrArg (fun s : Nat × Nat × Bool => s.2.2) (flN_no2 (and_tt (hpf k (by omega)) (by assumption)) (by assumption)).symm)) (.cons rfl .nil))))
                    · exact (.cons rfl (.cons rfl (.cons rfl (.cons rfl .nil))))
                    · exact (fun w hw => hw.sub ((List.sublist_cons_self _ _).trans (List.sublist_cons_self _ _)))
                    · omega
                    · (try dsimp only); omega
                  · skip
                    refine V.skip ?_
                    refine VE.then_wp ?_
                    refine V.region ?_
                    refine VL.r (.inl rfl) rfl (by decide) (yr_assign (u := .bool true) rfl rfl) ?_
                    refine VL.nil ?_
                    refine VE.block_normal ?_
                    refine VE.then_wp ?_
                    refine V.region ?_
                    refine VL.r (.inl rfl) rfl (by decide) (yr_int rfl rfl rfl (.inl ⟨rfl, wrap_in (by omega)⟩)) ?_
                    refine VL.r (.inl rfl) rfl (by decide) (yr_move rfl rfl) ?_
                    refine VL.nil ?_
                    refine VE.round (k + 1) ?_ ?_ ?_ ?_ ?_
                    · exact (.cons (congrArg (fun i => some (Value.float .f32 i)) (by rw [flK]; first | exact (flN_lo1 (and_tt (hpf k (by omega)) (by assumption)) (by assumption) (by assumption)).symm | exact (flN_lo2 (and_tt (hpf k (by omega)) (by assumption)) (by assumption) (by assumption)).symm | exact (flN_lo3 (and_tt (hpf k (by omega)) (by assumption)) (by assumption) (by assumption) (by assumption)).symm | exact congrArg (fun s : Nat × Nat × Bool => s.1) (flN_no1 (and_tt (hpf k (by omega)) (by assumption))).symm | exact congrArg (fun s : Nat × Nat × Bool => s.1) (flN_no2 (and_tt (hpf k (by omega)) (by assumption)) (by assumption)).symm)) (.cons (congrArg (fun i => some (Value.float .f32 i)) (by rw [flK]; first | exact (flN_hi1 (and_tt (hpf k (by omega)) (by assumption)) (by assumption) (by assumption)).symm | exact (flN_hi2 (and_tt (hpf k (by omega)) (by assumption)) (by assumption) (by assumption)).symm | exact (flN_hi3 (and_tt (hpf k (by omega)) (by assumption)) (by assumption) (by assumption) (by assumption)).symm | exact congrArg (fun s : Nat × Nat × Bool => s.2.1) (flN_no1 (and_tt (hpf k (by omega)) (by assumption))).symm | exact congrArg (fun s : Nat × Nat × Bool => s.2.1) (flN_no2 (and_tt (hpf k (by omega)) (by assumption)) (by assumption)).symm)) (.cons (congrArg (fun i => some (Value.bool i)) (by rw [flK]; first | exact (flN_f (and_tt (hpf k (by omega)) (by assumption)) (by assumption)).symm | exact congrArg (fun s : Nat × Nat × Bool => s.2.2) (flN_no1 (and_tt (hpf k (by omega)) (by assumption))).symm | exact congrArg (fun s : Nat × Nat × Bool => s.2.2) (flN_no2 (and_tt (hpf k (by omega)) (by assumption)) (by assumption)).symm)) (.cons rfl .nil))))
                    · exact (.cons rfl (.cons rfl (.cons rfl (.cons rfl .nil))))
                    · exact (fun w hw => hw.sub ((List.sublist_cons_self _ _).trans (List.sublist_cons_self _ _)))
                    · omega
                    · (try dsimp only); omega
              · skip
                refine V.skip ?_
                refine VE.then_wp ?_
                refine V.seq ?_
                refine V.seq ?_
                refine V.region ?_
                refine VL.r (.inl rfl) rfl (by decide) (yr_move rfl rfl) ?_
                refine VL.r (.inl rfl) rfl (by decide) (yr_not rfl rfl) ?_
                refine VL.r (.inl rfl) rfl (by decide) (yr_move rfl rfl) ?_
                refine VX.split 56 _ rfl (fun h17 => ?_) (fun h17 => ?_)
                · skip
                  replace h17 := bnot_t h17
                  refine VL.no rfl rfl rfl rfl rfl (by decide) ?_
                  refine VL.no rfl rfl rfl rfl rfl (by decide) ?_
                  refine VL.no rfl rfl rfl rfl rfl (by decide) ?_
                  refine VL.r (.inl rfl) rfl (by decide) (yr_pick_t (u := .bool true) rfl rfl rfl) ?_
                  refine VL.nil ?_
                  refine VE.then_wp ?_
                  refine V.condT rfl ?_
                  refine V.region ?_
                  refine VL.r (.inl rfl) rfl (by decide) (yr_move rfl rfl) ?_
                  refine VL.r (.inl rfl) rfl (by decide) (yr_assign rfl rfl) ?_
                  refine VL.nil ?_
                  refine VE.then_wp ?_
                  refine V.region ?_
                  refine VL.r (.inl rfl) rfl (by decide) (yr_assign (u := .bool true) rfl rfl) ?_
                  refine VL.nil ?_
                  refine VE.block_normal ?_
                  refine VE.then_wp ?_
                  refine V.region ?_
                  refine VL.r (.inl rfl) rfl (by decide) (yr_int rfl rfl rfl (.inl ⟨rfl, wrap_in (by omega)⟩)) ?_
                  refine VL.r (.inl rfl) rfl (by decide) (yr_move rfl rfl) ?_
                  refine VL.nil ?_
                  refine VE.round (k + 1) ?_ ?_ ?_ ?_ ?_
                  · exact (.cons (congrArg (fun i => some (Value.float .f32 i)) (by rw [flK]; first | exact (flN_lo1 (and_tt (hpf k (by omega)) (by assumption)) (by assumption) (by assumption)).symm | exact (flN_lo2 (and_tt (hpf k (by omega)) (by assumption)) (by assumption) (by assumption)).symm | exact (flN_lo3 (and_tt (hpf k (by omega)) (by assumption)) (by assumption) (by assumption) (by assumption)).symm | exact congrArg (fun s : Nat × Nat × Bool => s.1) (flN_no1 (and_tt (hpf k (by omega)) (by assumption))).symm | exact congrArg (fun s : Nat × Nat × Bool => s.1) (flN_no2 (and_tt (hpf k (by omega)) (by assumption)) (by assumption)).symm)) (.cons (congrArg (fun i => some (Value.float .f32 i)) (by rw [flK]; first | exact (flN_hi1 (and_tt (hpf k (by omega)) (by assumption)) (by assumption) (by assumption)).symm | exact (flN_hi2 (and_tt (hpf k (by omega)) (by assumption)) (by assumption) (by assumption)).symm | exact (flN_hi3 (and_tt (hpf k (by omega)) (by assumption)) (by assumption) (by assumption) (by assumption)).symm | exact congrArg (fun s : Nat × Nat × Bool => s.2.1) (flN_no1 (and_tt (hpf k (by omega)) (by assumption))).symm | exact congrArg (fun s : Nat × Nat × Bool => s.2.1) (flN_no2 (and_tt (hpf k (by omega)) (by assumption)) (by assumption)).symm)) (.cons (congrArg (fun i => some (Value.bool i)) (by rw [flK]; first | exact (flN_f (and_tt (hpf k (by omega)) (by assumption)) (by assumption)).symm | exact congrArg (fun s : Nat × Nat × Bool => s.2.2) (flN_no1 (and_tt (hpf k (by omega)) (by assumption))).symm | exact congrArg (fun s : Nat × Nat × Bool => s.2.2) (flN_no2 (and_tt (hpf k (by omega)) (by assumption)) (by assumption)).symm)) (.cons rfl .nil))))
                  · exact (.cons rfl (.cons rfl (.cons rfl (.cons rfl .nil))))
                  · exact (fun w hw => hw.sub ((List.sublist_cons_self _ _).trans (List.sublist_cons_self _ _)))
                  · omega
                  · (try dsimp only); omega
                · skip
                  replace h17 := bnot_f h17
                  refine VL.r (.inr ⟨_, _, _, rfl, rfl, rfl⟩) rfl (by decide) (yr_move rfl rfl) ?_
                  refine VL.r (.inr ⟨_, _, _, rfl, rfl, rfl⟩) rfl (by decide) (yr_move rfl rfl) ?_
                  refine VL.r (.inr ⟨_, _, _, rfl, rfl, rfl⟩) rfl (by decide) (yr_fcmp rfl (.inr (.inr (.inr (.inr (.inl rfl))))) rfl rfl) ?_
                  refine VL.r (.inl rfl) rfl (by decide) (yr_pick_f rfl rfl rfl) ?_
                  refine VL.nil ?_
                  refine VE.then_wp ?_
                  refine V.cond rfl (fun h19 => ?_) (fun h19 => ?_)
                  · skip
                    refine V.region ?_
                    refine VL.r (.inl rfl) rfl (by decide) (yr_move rfl rfl) ?_
                    refine VL.r (.inl rfl) rfl (by decide) (yr_assign rfl rfl) ?_
                    refine VL.nil ?_
                    refine VE.then_wp ?_
                    refine V.region ?_
                    refine VL.r (.inl rfl) rfl (by decide) (yr_assign (u := .bool true) rfl rfl) ?_
                    refine VL.nil ?_
                    refine VE.block_normal ?_
                    refine VE.then_wp ?_
                    refine V.region ?_
                    refine VL.r (.inl rfl) rfl (by decide) (yr_int rfl rfl rfl (.inl ⟨rfl, wrap_in (by omega)⟩)) ?_
                    refine VL.r (.inl rfl) rfl (by decide) (yr_move rfl rfl) ?_
                    refine VL.nil ?_
                    refine VE.round (k + 1) ?_ ?_ ?_ ?_ ?_
                    · exact (.cons (congrArg (fun i => some (Value.float .f32 i)) (by rw [flK]; first | exact (flN_lo1 (and_tt (hpf k (by omega)) (by assumption)) (by assumption) (by assumption)).symm | exact (flN_lo2 (and_tt (hpf k (by omega)) (by assumption)) (by assumption) (by assumption)).symm | exact (flN_lo3 (and_tt (hpf k (by omega)) (by assumption)) (by assumption) (by assumption) (by assumption)).symm | exact congrArg (fun s : Nat × Nat × Bool => s.1) (flN_no1 (and_tt (hpf k (by omega)) (by assumption))).symm | exact congrArg (fun s : Nat × Nat × Bool => s.1) (flN_no2 (and_tt (hpf k (by omega)) (by assumption)) (by assumption)).symm)) (.cons (congrArg (fun i => some (Value.float .f32 i)) (by rw [flK]; first | exact (flN_hi1 (and_tt (hpf k (by omega)) (by assumption)) (by assumption) (by assumption)).symm | exact (flN_hi2 (and_tt (hpf k (by omega)) (by assumption)) (by assumption) (by assumption)).symm | exact (flN_hi3 (and_tt (hpf k (by omega)) (by assumption)) (by assumption) (by assumption) (by assumption)).symm | exact congrArg (fun s : Nat × Nat × Bool => s.2.1) (flN_no1 (and_tt (hpf k (by omega)) (by assumption))).symm | exact congrArg (fun s : Nat × Nat × Bool => s.2.1) (flN_no2 (and_tt (hpf k (by omega)) (by assumption)) (by assumption)).symm)) (.cons (congrArg (fun i => some (Value.bool i)) (by rw [flK]; first | exact (flN_f (and_tt (hpf k (by omega)) (by assumption)) (by assumption)).symm | exact congrArg (fun s : Nat × Nat × Bool => s.2.2) (flN_no1 (and_tt (hpf k (by omega)) (by assumption))).symm | exact congrArg (fun s : Nat × Nat × Bool => s.2.2) (flN_no2 (and_tt (hpf k (by omega)) (by assumption)) (by assumption)).symm)) (.cons rfl .nil))))
                    · exact (.cons rfl (.cons rfl (.cons rfl (.cons rfl .nil))))
                    · exact (fun w hw => hw.sub ((List.sublist_cons_self _ _).trans (List.sublist_cons_self _ _)))
                    · omega
                    · (try dsimp only); omega
                  · skip
                    refine V.skip ?_
                    refine VE.then_wp ?_
                    refine V.region ?_
                    refine VL.r (.inl rfl) rfl (by decide) (yr_assign (u := .bool true) rfl rfl) ?_
                    refine VL.nil ?_
                    refine VE.block_normal ?_
                    refine VE.then_wp ?_
                    refine V.region ?_
                    refine VL.r (.inl rfl) rfl (by decide) (yr_int rfl rfl rfl (.inl ⟨rfl, wrap_in (by omega)⟩)) ?_
                    refine VL.r (.inl rfl) rfl (by decide) (yr_move rfl rfl) ?_
                    refine VL.nil ?_
                    refine VE.round (k + 1) ?_ ?_ ?_ ?_ ?_
                    · exact (.cons (congrArg (fun i => some (Value.float .f32 i)) (by rw [flK]; first | exact (flN_lo1 (and_tt (hpf k (by omega)) (by assumption)) (by assumption) (by assumption)).symm | exact (flN_lo2 (and_tt (hpf k (by omega)) (by assumption)) (by assumption) (by assumption)).symm | exact (flN_lo3 (and_tt (hpf k (by omega)) (by assumption)) (by assumption) (by assumption) (by assumption)).symm | exact congrArg (fun s : Nat × Nat × Bool => s.1) (flN_no1 (and_tt (hpf k (by omega)) (by assumption))).symm | exact congrArg (fun s : Nat × Nat × Bool => s.1) (flN_no2 (and_tt (hpf k (by omega)) (by assumption)) (by assumption)).symm)) (.cons (congrArg (fun i => some (Value.float .f32 i)) (by rw [flK]; first | exact (flN_hi1 (and_tt (hpf k (by omega)) (by assumption)) (by assumption) (by assumption)).symm | exact (flN_hi2 (and_tt (hpf k (by omega)) (by assumption)) (by assumption) (by assumption)).symm | exact (flN_hi3 (and_tt (hpf k (by omega)) (by assumption)) (by assumption) (by assumption) (by assumption)).symm | exact congrArg (fun s : Nat × Nat × Bool => s.2.1) (flN_no1 (and_tt (hpf k (by omega)) (by assumption))).symm | exact congrArg (fun s : Nat × Nat × Bool => s.2.1) (flN_no2 (and_tt (hpf k (by omega)) (by assumption)) (by assumption)).symm)) (.cons (congrArg (fun i => some (Value.bool i)) (by rw [flK]; first | exact (flN_f (and_tt (hpf k (by omega)) (by assumption)) (by assumption)).symm | exact congrArg (fun s : Nat × Nat × Bool => s.2.2) (flN_no1 (and_tt (hpf k (by omega)) (by assumption))).symm | exact congrArg (fun s : Nat × Nat × Bool => s.2.2) (flN_no2 (and_tt (hpf k (by omega)) (by assumption)) (by assumption)).symm)) (.cons rfl .nil))))
                    · exact (.cons rfl (.cons rfl (.cons rfl (.cons rfl .nil))))
                    · exact (fun w hw => hw.sub ((List.sublist_cons_self _ _).trans (List.sublist_cons_self _ _)))
                    · omega
                    · (try dsimp only); omega
      · skip
        replace h4 := ic_lss' h4
        refine V.exit ?_
        refine VE.then_exit ?_
        refine VE.then_exit ?_
        refine VE.block_here ?_
        refine VE.then_wp ?_
        refine V.seq ?_
        refine V.seq ?_
        refine V.region ?_
        refine VL.r (.inl rfl) rfl (by decide) (yr_move rfl rfl) ?_
        refine VL.r (.inl rfl) rfl (by decide) (yr_not rfl rfl) ?_
        refine VL.nil ?_
        refine VE.then_wp ?_
        refine V.cond rfl (fun h20 => ?_) (fun h20 => ?_)
        · skip
          replace h20 := bnot_t h20
          refine V.seq ?_
          refine V.region ?_
          refine VL.r (.inl rfl) rfl (by decide) (yr_assign (u := .float .f32 0) rfl rfl) ?_
          refine VL.r (.inl rfl) rfl (by decide) (yr_assign (u := .bool false) rfl rfl) ?_
          refine VL.nil ?_
          refine VE.then_wp ?_
          refine V.ret ?_
          refine VE.then_ret ?_
          refine ret2 rfl rfl rfl (by nofun) (by nofun) (fun w1 hw => ?_)
          first
            | exact ⟨(flR_no1 (by assumption)).symm, hw.below⟩
            | exact ⟨(flR_no2 (by assumption)).symm, hw.below⟩
            | (obtain rfl : k = vs.length := by omega
               first
                 | exact ⟨(flR_no3 (by assumption)).symm, hw.below⟩
                 | exact ⟨(flR_yes (by assumption) (by assumption) (by assumption)).symm, hw.below⟩)
        · skip
          replace h20 := bnot_f h20
          refine V.skip ?_
          refine VE.then_wp ?_
          refine V.seq ?_
          refine V.region ?_
          refine VL.r (.inl rfl) rfl (by decide) (yr_move rfl rfl) ?_
          refine VL.r (.inl rfl) rfl (by decide) (yr_move rfl rfl) ?_
          refine VL.r (.inl rfl) rfl (by decide) (yr_float rfl (.inr (.inl rfl)) rfl rfl) ?_
          refine VL.r (.inl rfl) rfl (by decide) (yr_assign rfl rfl) ?_
          refine VL.r (.inl rfl) rfl (by decide) (yr_assign (u := .bool true) rfl rfl) ?_
          refine VL.nil ?_
          refine VE.then_wp ?_
          refine V.ret ?_
          refine ret2 rfl rfl rfl (by nofun) (by nofun) (fun w1 hw => ?_)
          first
            | exact ⟨(flR_no1 (by assumption)).symm, hw.below⟩
            | exact ⟨(flR_no2 (by assumption)).symm, hw.below⟩
            | (obtain rfl : k = vs.length := by omega
               first
                 | exact ⟨(flR_no3 (by assumption)).symm, hw.below⟩
                 | exact ⟨(flR_yes (by assumption) (by assumption) (by assumption)).symm, hw.below⟩)

end Go.Proofs.Ytnclpojljgpadaa


namespace Go.Proofs.Ytnclpojljgpadaa
open Go.RowKit
set_option linter.unusedVariables false
set_option linter.unusedSimpArgs false
set_option maxRecDepth 20000

theorem mixed_Square : Try.prog.follows .mixedOrders = true := by kernel_rfl
theorem sz26_Square : (Try.prog.info? 26).map (·.size) = some 1 := by kernel_rfl
theorem fb26_Square : flatB Try.prog 26 = true := by kernel_rfl
theorem sz41_Square : (Try.prog.info? 41).map (·.size) = some 3 := by kernel_rfl
theorem known51_Square : Known Try.prog 51 := Known.mk' Try.func51 (by kernel_rfl)
theorem sz39_Square : (Try.prog.info? 39).map (·.size) = some 1 := by kernel_rfl
theorem fb39_Square : flatB Try.prog 39 = true := by kernel_rfl
theorem sz32_Square : (Try.prog.info? 32).map (·.size) = some 1 := by kernel_rfl
theorem fb32_Square : flatB Try.prog 32 = true := by kernel_rfl
theorem elt26_Square : Elt Try.prog 26 [Value.float .f32 0] 4 := Elt.mk' (by kernel_rfl) (by decide)
theorem known52_Square : Known Try.prog 52 := Known.mk' Try.func52 (by kernel_rfl)

theorem c_dot {w : World} {a b : Option Addr} {c d : Nat} {xs ys : List Nat} (hA : Cl w a (fl xs)) (hB : Cl w b (fl ys)) (hl : xs.length = ys.length) (hn : xs.length ≤ 1050000) : Pure Try.prog 52 [.slice a xs.length c, .slice b ys.length d] w (.float .f32 (dotK xs ys ys.length)) := by
  refine Pure.enter Try.func52 rfl Try.ntmps52 (Nat.le_of_ble_eq_true rfl) ?_
  refine V.seq ?_
  refine V.region ?_
  refine VL.r (.inl rfl) rfl (by decide) (yr_assign (u := .float .f32 0) rfl rfl) ?_
  refine VL.nil ?_
  refine VE.then_wp ?_
  refine V.seq ?_
  refine V.region ?_
  refine VL.r (.inl rfl) rfl (by decide) (yr_assign (u := .float .f32 0) rfl rfl) ?_
  refine VL.nil ?_
  refine VE.then_wp ?_
  refine V.seq ?_
  refine V.seq ?_
  refine V.region ?_
  refine VL.r (.inl rfl) rfl (by decide) (yr_move rfl rfl) ?_
  refine VL.r (.inl rfl) rfl (by decide) (yr_len rfl Try.underlying32 rfl) ?_
  refine VL.r (.inl rfl) rfl (by decide) (yr_move (u := .int .i64 0) rfl rfl) ?_
  refine VL.nil ?_
  refine VE.then_wp ?_
  refine V.block ?_
  refine V.loops (G := Nat) [(0, _), (1, _), (8, _)] (fun (k : Nat) => k ≤ xs.length) (fun (k : Nat) => [(5, .float .f32 (dotK xs ys k)), (9, .int .i64 (k : Int))]) (fun (k : Nat) => xs.length - k) 0 (.cons rfl (.cons rfl (.cons rfl .nil))) (.cons rfl (.cons rfl .nil)) ?_ ?_
  · exact (by omega)
  rintro k hk
  show V _ _ _ _ ([(5, .float .f32 (dotK xs ys k)), (9, .int .i64 (k : Int))] ++ [(0, _), (1, _), (8, _)]) _ _
  refine V.seq ?_
  refine V.region ?_
  refine VL.r (.inl rfl) rfl (by decide) (yr_icmp rfl (.inr (.inr (.inl rfl))) rfl rfl) ?_
  refine VL.nil ?_
  refine VE.then_wp ?_
  refine V.seq ?_
  refine V.cond rfl (fun h1 => ?_) (fun h1 => ?_)
  · skip
    replace h1 := ic_lss h1
    refine V.skip ?_
    refine VE.then_wp ?_
    refine V.seq ?_
    refine V.block ?_
    refine V.seq ?_
    refine V.region ?_
    refine VL.r (.inl rfl) rfl (by decide) (yr_move rfl rfl) ?_
    refine VL.r (.inl rfl) rfl (by decide) (yr_assign rfl rfl) ?_
    refine VL.nil ?_
    refine VE.then_wp ?_
    refine V.draw [(0, 0), (1, 0), (2, 0), (3, 0), (4, 0), (5, 0), (6, 0), (7, 0), (8, 0), (9, 0), (10, 0), (11, 0)] mixed_Square (by kernel_rfl) (by intro j o hj; simp at hj) ?_
    refine SW.r rfl (.inl rfl) rfl (by decide) (yr_move rfl rfl) ?_
    refine SW.r rfl (.inl rfl) rfl (by decide) (yr_move rfl rfl) ?_
    refine SW.r rfl (.inl rfl) rfl (by decide) (yr_move rfl rfl) ?_
    refine SW.q rfl (.inl rfl) rfl (by decide) (yq_idx (k := k) rfl Try.underlying32 sz26_Square rfl rfl (by first | exact Sees.root (by assumption) | exact Sees.own (by repeat (first | exact List.mem_cons_self | exact List.mem_append_left _ (by assumption) | apply List.mem_cons_of_mem | apply List.mem_append_right)) | exact Sees.root (hR _ (by omega)) | exact Sees.own (RowsIn.mem (by repeat (first | exact RowsIn.here | exact RowsIn.last | apply RowsIn.there | apply RowsIn.thereS)) _ (by omega)) | exact Sees.own (WRowsIn.mem (by repeat (first | exact WRowsIn.here | exact WRowsIn.last | apply WRowsIn.there | apply WRowsIn.thereS)) _ (by omega))) (by first | rfl | omega | (push_cast; rfl) | (push_cast; omega) | exact tmod_nat _ _) (by exact fl_length _) (by omega)) ?_
    refine SW.q rfl (.inl rfl) rfl (by decide) (yq_loadF rfl fb26_Square rfl (by first | exact Sees.root (by assumption) | exact Sees.own (by repeat (first | exact List.mem_cons_self | exact List.mem_append_left _ (by assumption) | apply List.mem_cons_of_mem | apply List.mem_append_right)) | exact Sees.root (hR _ (by omega)) | exact Sees.own (RowsIn.mem (by repeat (first | exact RowsIn.here | exact RowsIn.last | apply RowsIn.there | apply RowsIn.thereS)) _ (by omega)) | exact Sees.own (WRowsIn.mem (by repeat (first | exact WRowsIn.here | exact WRowsIn.last | apply WRowsIn.there | apply WRowsIn.thereS)) _ (by omega))) (by omega)) ?_
    refine SW.r rfl (.inl rfl) rfl (by decide) (yr_move rfl rfl) ?_
    refine SW.r rfl (.inl rfl) rfl (by decide) (yr_move rfl rfl) ?_
    refine SW.q rfl (.inl rfl) rfl (by decide) (yq_idx (k := k) rfl Try.underlying32 sz26_Square rfl rfl (by first | exact Sees.root (by assumption) | exact Sees.own (by repeat (first | exact List.mem_cons_self | exact List.mem_append_left _ (by assumption) | apply List.mem_cons_of_mem | apply List.mem_append_right)) | exact Sees.root (hR _ (by omega)) | exact Sees.own (RowsIn.mem (by repeat (first | exact RowsIn.here | exact RowsIn.last | apply RowsIn.there | apply RowsIn.thereS)) _ (by omega)) | exact Sees.own (WRowsIn.mem (by repeat (first | exact WRowsIn.here | exact WRowsIn.last | apply WRowsIn.there | apply WRowsIn.thereS)) _ (by omega))) (by first | rfl | omega | (push_cast; rfl) | (push_cast; omega) | exact tmod_nat _ _) (by exact fl_length _) (by omega)) ?_
    refine SW.q rfl (.inl rfl) rfl (by decide) (yq_loadF rfl fb26_Square rfl (by first | exact Sees.root (by assumption) | exact Sees.own (by repeat (first | exact List.mem_cons_self | exact List.mem_append_left _ (by assumption) | apply List.mem_cons_of_mem | apply List.mem_append_right)) | exact Sees.root (hR _ (by omega)) | exact Sees.own (RowsIn.mem (by repeat (first | exact RowsIn.here | exact RowsIn.last | apply RowsIn.there | apply RowsIn.thereS)) _ (by omega)) | exact Sees.own (WRowsIn.mem (by repeat (first | exact WRowsIn.here | exact WRowsIn.last | apply WRowsIn.there | apply WRowsIn.thereS)) _ (by omega))) (by omega)) ?_
    refine SW.r rfl (.inl rfl) rfl (by decide) (yr_float rfl (.inr (.inr (.inl rfl))) rfl rfl) ?_
    refine SW.r rfl (.inl rfl) rfl (by decide) (yr_float rfl (.inl rfl) rfl rfl) ?_
    refine SW.r rfl (.inl rfl) rfl (by decide) (yr_assign rfl rfl) ?_
    refine SW.done ?_
    refine VE.block_normal ?_
    refine VE.then_wp ?_
    refine V.region ?_
    refine VL.r (.inl rfl) rfl (by decide) (yr_int rfl rfl rfl (.inl ⟨rfl, wrap_in (by omega)⟩)) ?_
    refine VL.r (.inl rfl) rfl (by decide) (yr_move rfl rfl) ?_
    refine VL.nil ?_
    refine VE.round (k + 1) ?_ ?_ ?_ ?_ ?_
    · exact (.cons rfl (.cons rfl .nil))
    · exact (.cons rfl (.cons rfl (.cons rfl .nil)))
    · exact (fun w hw => hw)
    · omega
    · (try dsimp only); omega
  · skip
    replace h1 := ic_lss' h1
    refine V.exit ?_
    refine VE.then_exit ?_
    refine VE.then_exit ?_
    refine VE.block_here ?_
    refine VE.then_wp ?_
    refine V.seq ?_
    refine V.region ?_
    refine VL.r (.inl rfl) rfl (by decide) (yr_move rfl rfl) ?_
    refine VL.r (.inl rfl) rfl (by decide) (yr_assign rfl rfl) ?_
    refine VL.nil ?_
    refine VE.then_wp ?_
    refine V.ret ?_
    refine ret1 rfl rfl (fun w1 hw => ?_)
    obtain rfl : k = ys.length := by omega
    exact ⟨rfl, hw.below⟩

theorem c_areCurrents {w : World} {a a1 a2 : Option Addr} {c c1 c2 : Nat} {f : Nat → Option Addr × Nat} {xss : List (List Nat)} {ws gs : List Nat} {b : Option Addr} {d : Nat} {x : List Nat} (hA : Cl w a (hd f xss)) (hR : Rws w f xss) (hW : Cl w a1 (fl ws)) (hG : Cl w a2 (fl gs)) (hB : Cl w b (fl x)) (hsz : bulk xss + ws.length + gs.length ≤ 1050000) : Pure Try.prog 31 [.agg #[.slice a xss.length c, .slice a1 ws.length c1, .slice a2 gs.length c2], .slice b x.length d] w (.bool (fitsD xss ws gs x)) := by
  refine Pure.enter Try.func31 rfl Try.ntmps31 (Nat.le_of_ble_eq_true rfl) ?_
  have hr : ∀ i, i < xss.length → (xss.getD i []).length ≤ 1050000 := fun i hi => by have := bulk_row hi; omega
  have hxl : xss.length ≤ bulk xss := by unfold bulk; omega
  refine V.seq ?_
  refine V.region ?_
  refine VL.new1 (.inl rfl) rfl (by decide) (yn_box rfl rfl (.inr ⟨rfl, rfl⟩)) ?_
  intro b2
  refine VL.r (.inl rfl) rfl (by decide) (yr_assign (u := .bool false) rfl rfl) ?_
  refine VL.nil ?_
  refine VE.then_wp ?_
  refine V.seq ?_
  refine V.region ?_
  refine VL.q (.inl rfl) rfl (by decide) (yq_loadS rfl Try.underlying41 sz41_Square rfl (by first | exact Sees.root (by assumption) | exact Sees.own (by repeat (first | exact List.mem_cons_self | exact List.mem_append_left _ (by assumption) | apply List.mem_cons_of_mem | apply List.mem_append_right)) | exact Sees.root (hR _ (by omega)) | exact Sees.own (RowsIn.mem (by repeat (first | exact RowsIn.here | exact RowsIn.last | apply RowsIn.there | apply RowsIn.thereS)) _ (by omega)) | exact Sees.own (WRowsIn.mem (by repeat (first | exact WRowsIn.here | exact WRowsIn.last | apply WRowsIn.there | apply WRowsIn.thereS)) _ (by omega))) rfl rfl rfl) ?_
  refine VL.q (.inl rfl) rfl (by decide) (yq_callf rfl known51_Square (.cons rfl .nil) (fun w hw => (c_implValid (by first | exact Sees.root (by assumption) w hw | exact Sees.own (by repeat (first | exact List.mem_cons_self | exact List.mem_append_left _ (by assumption) | apply List.mem_cons_of_mem | apply List.mem_append_right)) w hw) (by first | exact Rws.root (by assumption) hw | exact Rws.own (by repeat (first | exact RowsIn.here | exact RowsIn.last | apply RowsIn.there | apply RowsIn.thereS)) hw) (by first | exact Sees.root (by assumption) w hw | exact Sees.own (by repeat (first | exact List.mem_cons_self | exact List.mem_append_left _ (by assumption) | apply List.mem_cons_of_mem | apply List.mem_append_right)) w hw) (by first | exact Sees.root (by assumption) w hw | exact Sees.own (by repeat (first | exact List.mem_cons_self | exact List.mem_append_left _ (by assumption) | apply List.mem_cons_of_mem | apply List.mem_append_right)) w hw) (by omega)))) ?_
  refine VL.r (.inl rfl) rfl (by decide) (yr_move rfl rfl) ?_
  refine VX.split 7 _ rfl (fun h1 => ?_) (fun h1 => ?_)
  · skip
    have hv := valid_is h1
    obtain ⟨v1, v2, v3, v4, v5, v6, v7, v8⟩ := hv
    refine VL.r (.inr ⟨_, _, _, rfl, rfl, rfl⟩) rfl (by decide) (yr_move rfl rfl) ?_
    refine VL.r (.inr ⟨_, _, _, rfl, rfl, rfl⟩) rfl (by decide) (yr_len rfl Try.underlying32 rfl) ?_
    refine VL.r (.inr ⟨_, _, _, rfl, rfl, rfl⟩) rfl (by decide) (yr_fieldAddr rfl Try.underlying41 rfl rfl sz39_Square (by decide) rfl) ?_
    refine VL.q (.inr ⟨_, _, _, rfl, rfl, rfl⟩) rfl (by decide) (yq_load rfl fb39_Square rfl (by first | exact Sees.root (by assumption) | exact Sees.own (by repeat (first | exact List.mem_cons_self | exact List.mem_append_left _ (by assumption) | apply List.mem_cons_of_mem | apply List.mem_append_right)) | exact Sees.root (hR _ (by omega)) | exact Sees.own (RowsIn.mem (by repeat (first | exact RowsIn.here | exact RowsIn.last | apply RowsIn.there | apply RowsIn.thereS)) _ (by omega)) | exact Sees.own (WRowsIn.mem (by repeat (first | exact WRowsIn.here | exact WRowsIn.last | apply WRowsIn.there | apply WRowsIn.thereS)) _ (by omega))) rfl) ?_
    refine VL.q (.inr ⟨_, _, _, rfl, rfl, rfl⟩) rfl (by decide) (yq_idx (k := 0) rfl Try.underlying39 sz32_Square rfl rfl (by first | exact Sees.root (by assumption) | exact Sees.own (by repeat (first | exact List.mem_cons_self | exact List.mem_append_left _ (by assumption) | apply List.mem_cons_of_mem | apply List.mem_append_right)) | exact Sees.root (hR _ (by omega)) | exact Sees.own (RowsIn.mem (by repeat (first | exact RowsIn.here | exact RowsIn.last | apply RowsIn.there | apply RowsIn.thereS)) _ (by omega)) | exact Sees.own (WRowsIn.mem (by repeat (first | exact WRowsIn.here | exact WRowsIn.last | apply WRowsIn.there | apply WRowsIn.thereS)) _ (by omega))) (by first | rfl | omega | (push_cast; rfl) | (push_cast; omega) | exact tmod_nat _ _) (by first | exact fl_length _ | exact hd_length _ _ | simp) (by omega)) ?_
    refine VL.q (.inr ⟨_, _, _, rfl, rfl, rfl⟩) rfl (by decide) (yq_loadH rfl fb32_Square rfl (by first | exact Sees.root (by assumption) | exact Sees.own (by repeat (first | exact List.mem_cons_self | exact List.mem_append_left _ (by assumption) | apply List.mem_cons_of_mem | apply List.mem_append_right)) | exact Sees.root (hR _ (by omega)) | exact Sees.own (RowsIn.mem (by repeat (first | exact RowsIn.here | exact RowsIn.last | apply RowsIn.there | apply RowsIn.thereS)) _ (by omega)) | exact Sees.own (WRowsIn.mem (by repeat (first | exact WRowsIn.here | exact WRowsIn.last | apply WRowsIn.there | apply WRowsIn.thereS)) _ (by omega))) (by omega)) ?_
    refine VL.r (.inr ⟨_, _, _, rfl, rfl, rfl⟩) rfl (by decide) (yr_len rfl Try.underlying32 rfl) ?_
    refine VL.r (.inr ⟨_, _, _, rfl, rfl, rfl⟩) rfl (by decide) (yr_icmp rfl (.inl rfl) rfl rfl) ?_
    refine VL.r (.inl rfl) rfl (by decide) (yr_pick_t rfl rfl rfl) ?_
    refine VL.r (.inl rfl) rfl (by decide) (yr_assign rfl rfl) ?_
    refine VL.nil ?_
    refine VE.then_wp ?_
    refine V.ret ?_
    refine ret1 rfl rfl (fun w1 hw => ?_)
    exact ⟨congrArg Value.bool (by rw [fitsD, h1, Bool.true_and]; exact icmp_eqN _ _), hw.below⟩
  · skip
    refine VL.no rfl rfl rfl rfl rfl (by decide) ?_
    refine VL.no rfl rfl rfl rfl rfl (by decide) ?_
    refine VL.no rfl rfl rfl rfl rfl (by decide) ?_
    refine VL.no rfl rfl rfl rfl rfl (by decide) ?_
    refine VL.no rfl rfl rfl rfl rfl (by decide) ?_
    refine VL.no rfl rfl rfl rfl rfl (by decide) ?_
    refine VL.no rfl rfl rfl rfl rfl (by decide) ?_
    refine VL.no rfl rfl rfl rfl rfl (by decide) ?_
    refine VL.r (.inl rfl) rfl (by decide) (yr_pick_f (u := .bool false) rfl rfl rfl) ?_
    refine VL.r (.inl rfl) rfl (by decide) (yr_assign rfl rfl) ?_
    refine VL.nil ?_
    refine VE.then_wp ?_
    refine V.ret ?_
    refine ret1 rfl rfl (fun w1 hw => ?_)
    exact ⟨by rw [fitsD, h1, Bool.false_and], hw.below⟩

theorem c_misses {w : World} {a a1 a2 : Option Addr} {c c1 c2 : Nat} {f : Nat → Option Addr × Nat} {xss : List (List Nat)} {ws gs : List Nat} {b : Option Addr} {d : Nat} {x : List Nat} (hA : Cl w a (hd f xss)) (hR : Rws w f xss) (hW : Cl w a1 (fl ws)) (hG : Cl w a2 (fl gs)) (hB : Cl w b (fl x)) (hsz : bulk xss + ws.length + gs.length ≤ 1050000) (hfit : fitsD xss ws gs x = true) : New Try.prog 32 [.agg #[.slice a xss.length c, .slice a1 ws.length c1, .slice a2 gs.length c2], .slice b x.length d] w (fun p : Option Addr × Nat => .slice p.1 xss.length p.2) (fun p => [⟨p.1, fl (missL xss ws x xss.length), p.2 * 1, 26⟩]) := by
  refine New.enter Try.func32 rfl Try.ntmps32 (Nat.le_of_ble_eq_true rfl) ?_
  have hr : ∀ i, i < xss.length → (xss.getD i []).length ≤ 1050000 := fun i hi => by have := bulk_row hi; omega
  have hxl : xss.length ≤ bulk xss := by unfold bulk; omega
  obtain ⟨⟨v1, v2, v3, v4, v5, v6, v7, v8⟩, hxn, hrow⟩ := fits_is hfit
  refine V.seq ?_
  refine V.region ?_
  refine VL.new1 (.inl rfl) rfl (by decide) (yn_box rfl rfl (.inr ⟨rfl, rfl⟩)) ?_
  intro b2
  refine VL.r (.inl rfl) rfl (by decide) (yr_assign (u := .slice none 0 0) rfl rfl) ?_
  refine VL.nil ?_
  refine VE.then_wp ?_
  refine V.seq ?_
  refine V.region ?_
  refine VL.new1 (.inl rfl) rfl (by decide) (yn_lit rfl Try.underlying32 elt26_Square rfl (by decide) .nil (by first | (simp; done) | (simp [cn, cn1, cn0]; done)) rfl rfl rfl) ?_
  intro b8
  refine VL.r (.inl rfl) rfl (by decide) (yr_assign rfl rfl) ?_
  refine VL.nil ?_
  refine VE.then_wp ?_
  refine V.seq ?_
  refine V.seq ?_
  refine V.region ?_
  refine VL.r (.inl rfl) rfl (by decide) (yr_fieldAddr rfl Try.underlying41 rfl rfl sz39_Square (by decide) rfl) ?_
  refine VL.q (.inl rfl) rfl (by decide) (yq_load rfl fb39_Square rfl (by first | exact Sees.root (by assumption) | exact Sees.own (by repeat (first | exact List.mem_cons_self | exact List.mem_append_left _ (by assumption) | apply List.mem_cons_of_mem | apply List.mem_append_right)) | exact Sees.root (hR _ (by omega)) | exact Sees.own (RowsIn.mem (by repeat (first | exact RowsIn.here | exact RowsIn.last | apply RowsIn.there | apply RowsIn.thereS)) _ (by omega)) | exact Sees.own (WRowsIn.mem (by repeat (first | exact WRowsIn.here | exact WRowsIn.last | apply WRowsIn.there | apply WRowsIn.thereS)) _ (by omega))) rfl) ?_
  refine VL.r (.inl rfl) rfl (by decide) (yr_len rfl Try.underlying39 rfl) ?_
  refine VL.r (.inl rfl) rfl (by decide) (yr_move (u := .int .i64 0) rfl rfl) ?_
  refine VL.nil ?_
  refine VE.then_wp ?_
  refine V.block ?_
  refine V.loopc (G := Nat × (Option Addr) × Nat) [(1, _), (2, _), (10, _), (11, _)] (fun ⟨k, a5, c5⟩ => k ≤ xss.length) (fun ⟨k, a5, c5⟩ => [⟨a5, fl (missL xss ws x k), c5 * 1, 26⟩, ⟨some ⟨b2, 0, none⟩, [.slice a xss.length c, .slice a1 ws.length c1, .slice a2 gs.length c2], 3, 41⟩]) (fun ⟨k, a5, c5⟩ => [(5, .slice a5 k c5), (12, .int .i64 (k : Int))]) (fun ⟨k, a5, c5⟩ => xss.length - k) (0, some ⟨b8, 0, none⟩, 0) (.cons rfl (.cons rfl (.cons rfl (.cons rfl .nil)))) (.cons rfl (.cons rfl .nil)) ?_ ?_ ?_
  · exact (fun w hw => hw)
  · exact (by omega)
  rintro ⟨k, a5, c5⟩ hk
  show V _ _ _ [⟨a5, fl (missL xss ws x k), c5 * 1, 26⟩, ⟨some ⟨b2, 0, none⟩, [.slice a xss.length c, .slice a1 ws.length c1, .slice a2 gs.length c2], 3, 41⟩] ([(5, .slice a5 k c5), (12, .int .i64 (k : Int))] ++ [(1, _), (2, _), (10, _), (11, _)]) _ _
  refine V.seq ?_
  refine V.region ?_
  refine VL.r (.inl rfl) rfl (by decide) (yr_icmp rfl (.inr (.inr (.inl rfl))) rfl rfl) ?_
  refine VL.nil ?_
  refine VE.then_wp ?_
  refine V.seq ?_
  refine V.cond rfl (fun h1 => ?_) (fun h1 => ?_)
  · skip
    replace h1 := ic_lss h1
    refine V.skip ?_
    refine VE.then_wp ?_
    refine V.seq ?_
    refine V.block ?_
    refine V.seq ?_
    refine V.region ?_
    refine VL.r (.inl rfl) rfl (by decide) (yr_move rfl rfl) ?_
    refine VL.q (.inl rfl) rfl (by decide) (yq_idx (k := k) rfl Try.underlying39 sz32_Square rfl rfl (by first | exact Sees.root (by assumption) | exact Sees.own (by repeat (first | exact List.mem_cons_self | exact List.mem_append_left _ (by assumption) | apply List.mem_cons_of_mem | apply List.mem_append_right)) | exact Sees.root (hR _ (by omega)) | exact Sees.own (RowsIn.mem (by repeat (first | exact RowsIn.here | exact RowsIn.last | apply RowsIn.there | apply RowsIn.thereS)) _ (by omega)) | exact Sees.own (WRowsIn.mem (by repeat (first | exact WRowsIn.here | exact WRowsIn.last | apply WRowsIn.there | apply WRowsIn.thereS)) _ (by omega))) (by first | rfl | omega | (push_cast; rfl) | (push_cast; omega) | exact tmod_nat _ _) (by first | exact fl_length _ | exact hd_length _ _ | simp) (by omega)) ?_
    refine VL.q (.inl rfl) rfl (by decide) (yq_loadH rfl fb32_Square rfl (by first | exact Sees.root (by assumption) | exact Sees.own (by repeat (first | exact List.mem_cons_self | exact List.mem_append_left _ (by assumption) | apply List.mem_cons_of_mem | apply List.mem_append_right)) | exact Sees.root (hR _ (by omega)) | exact Sees.own (RowsIn.mem (by repeat (first | exact RowsIn.here | exact RowsIn.last | apply RowsIn.there | apply RowsIn.thereS)) _ (by omega)) | exact Sees.own (WRowsIn.mem (by repeat (first | exact WRowsIn.here | exact WRowsIn.last | apply WRowsIn.there | apply WRowsIn.thereS)) _ (by omega))) (by omega)) ?_
    refine VL.r (.inl rfl) rfl (by decide) (yr_assign rfl rfl) ?_
    refine VL.r (.inl rfl) rfl (by decide) (yr_assign rfl rfl) ?_
    refine VL.nil ?_
    refine VE.then_wp ?_
    refine V.draw [(0, 0), (1, 0), (2, 0), (3, 0), (4, 0), (5, 0), (6, 0), (7, 0), (8, 0), (9, 0), (10, 1), (11, 3), (12, 0)] mixed_Square (by kernel_rfl) (by intro j o hj; simp at hj) ?_
    refine SW.r rfl (.inl rfl) rfl (by decide) (yr_move rfl rfl) ?_
    refine SW.r rfl (.inl rfl) rfl (by decide) (yr_fieldAddr rfl Try.underlying41 rfl rfl sz32_Square (by decide) rfl) ?_
    refine SW.q rfl (.inl rfl) rfl (by decide) (yq_load rfl fb32_Square rfl (by first | exact Sees.root (by assumption) | exact Sees.own (by repeat (first | exact List.mem_cons_self | exact List.mem_append_left _ (by assumption) | apply List.mem_cons_of_mem | apply List.mem_append_right)) | exact Sees.root (hR _ (by omega)) | exact Sees.own (RowsIn.mem (by repeat (first | exact RowsIn.here | exact RowsIn.last | apply RowsIn.there | apply RowsIn.thereS)) _ (by omega)) | exact Sees.own (WRowsIn.mem (by repeat (first | exact WRowsIn.here | exact WRowsIn.last | apply WRowsIn.there | apply WRowsIn.thereS)) _ (by omega))) rfl) ?_
    refine SW.r rfl (.inl rfl) rfl (by decide) (yr_move rfl rfl) ?_
    refine SW.q rfl (.inl rfl) rfl (by decide) (yq_idx (k := k) rfl Try.underlying32 sz26_Square rfl rfl (by first | exact Sees.root (by assumption) | exact Sees.own (by repeat (first | exact List.mem_cons_self | exact List.mem_append_left _ (by assumption) | apply List.mem_cons_of_mem | apply List.mem_append_right)) | exact Sees.root (hR _ (by omega)) | exact Sees.own (RowsIn.mem (by repeat (first | exact RowsIn.here | exact RowsIn.last | apply RowsIn.there | apply RowsIn.thereS)) _ (by omega)) | exact Sees.own (WRowsIn.mem (by repeat (first | exact WRowsIn.here | exact WRowsIn.last | apply WRowsIn.there | apply WRowsIn.thereS)) _ (by omega))) (by first | rfl | omega | (push_cast; rfl) | (push_cast; omega) | exact tmod_nat _ _) (by first | exact fl_length _ | exact hd_length _ _ | simp) (by omega)) ?_
    refine SW.q rfl (.inl rfl) rfl (by decide) (yq_loadF rfl fb26_Square rfl (by first | exact Sees.root (by assumption) | exact Sees.own (by repeat (first | exact List.mem_cons_self | exact List.mem_append_left _ (by assumption) | apply List.mem_cons_of_mem | apply List.mem_append_right)) | exact Sees.root (hR _ (by omega)) | exact Sees.own (RowsIn.mem (by repeat (first | exact RowsIn.here | exact RowsIn.last | apply RowsIn.there | apply RowsIn.thereS)) _ (by omega)) | exact Sees.own (WRowsIn.mem (by repeat (first | exact WRowsIn.here | exact WRowsIn.last | apply WRowsIn.there | apply WRowsIn.thereS)) _ (by omega))) (by omega)) ?_
    refine SW.r rfl (.inl rfl) rfl (by decide) (yr_move rfl rfl) ?_
    refine SW.r rfl (.inl rfl) rfl (by decide) (yr_move rfl rfl) ?_
    refine SW.q rfl (.inl rfl) rfl (by decide) (yq_callf rfl known52_Square (.cons rfl (.cons rfl .nil)) (fun w hw => (c_dot (hR.root hw k (by omega)) (by first | exact Sees.root (by assumption) w hw | exact Sees.own (by repeat (first | exact List.mem_cons_self | exact List.mem_append_left _ (by assumption) | apply List.mem_cons_of_mem | apply List.mem_append_right)) w hw) (hrow k (by omega)) (hr k (by omega))))) ?_
    refine SW.r rfl (.inl rfl) rfl (by decide) (yr_float rfl (.inr (.inl rfl)) rfl rfl) ?_
    refine SW.new1 rfl (.inl rfl) rfl (by decide) (yn_lit rfl Try.underlying32 elt26_Square rfl (by decide) (.cons rfl .nil) (by first | (simp; done) | (simp [cn, cn1, cn0]; done)) rfl rfl rfl) ?_
    intro b27
    refine SW.c rfl (.inl rfl) rfl (by decide) (yc_appendz 1 rfl rfl Try.underlying32 elt26_Square rfl rfl (by repeat (first | exact UpdF.here | apply UpdF.there | apply UpdF.thereS)) (by first | exact Sees.root (by assumption) | exact Sees.own (by repeat (first | exact List.mem_cons_self | exact List.mem_append_left _ (by assumption) | apply List.mem_cons_of_mem | apply List.mem_append_right)) | exact Sees.root (hR _ (by omega)) | exact Sees.own (RowsIn.mem (by repeat (first | exact RowsIn.here | exact RowsIn.last | apply RowsIn.there | apply RowsIn.thereS)) _ (by omega)) | exact Sees.own (WRowsIn.mem (by repeat (first | exact WRowsIn.here | exact WRowsIn.last | apply WRowsIn.there | apply WRowsIn.thereS)) _ (by omega))) rfl (by rw [fl_length, missL_length]; simp) (by first | rfl | simp) (by first | rfl | exact fl_scal _) (by first | rfl | exact fl_scal _) (by omega) (by omega)) ?_
    rintro ⟨a28, c28⟩
    refine SW.r rfl (.inl rfl) rfl (by decide) (yr_assign rfl rfl) ?_
    refine SW.done ?_
    refine VE.block_normal ?_
    refine VE.then_wp ?_
    refine V.region ?_
    refine VL.r (.inl rfl) rfl (by decide) (yr_int rfl rfl rfl (.inl ⟨rfl, wrap_in (by omega)⟩)) ?_
    refine VL.r (.inl rfl) rfl (by decide) (yr_move rfl rfl) ?_
    refine VL.nil ?_
    refine VE.round (k + 1, a28, c28) ?_ ?_ ?_ ?_ ?_
    · exact (.cons rfl (.cons rfl .nil))
    · exact (.cons rfl (.cons rfl (.cons rfl (.cons rfl .nil))))
    · exact (fun w hw => by have h9 := hw.sub (List.sublist_cons_self _ _); rw [fl_snoc, show fop .sub .f32 (ws.getD k 0) (dotK (xss.getD k []) x x.length) = missAt xss ws x k from rfl, missL_succ] at h9; exact h9)
    · omega
    · (try dsimp only); omega
  · skip
    replace h1 := ic_lss' h1
    refine V.exit ?_
    refine VE.then_exit ?_
    refine VE.then_exit ?_
    refine VE.block_here ?_
    refine VE.then_wp ?_
    refine V.seq ?_
    refine V.region ?_
    refine VL.r (.inl rfl) rfl (by decide) (yr_move rfl rfl) ?_
    refine VL.r (.inl rfl) rfl (by decide) (yr_assign rfl rfl) ?_
    refine VL.nil ?_
    refine VE.then_wp ?_
    refine V.ret ?_
    refine ret1 rfl rfl (fun w1 hw => ?_)
    obtain rfl : k = xss.length := by omega
    exact ⟨(a5, c5), rfl, hw.out1⟩

end Go.Proofs.Ytnclpojljgpadaa


namespace Go.Proofs.Ytnclpojljgpadaa
open Go.RowKit
set_option linter.unusedVariables false
set_option linter.unusedSimpArgs false
set_option maxRecDepth 20000

theorem sz41_Ridge : (Try.prog.info? 41).map (·.size) = some 3 := by kernel_rfl
theorem known31_Ridge : Known Try.prog 31 := Known.mk' Try.func31 (by kernel_rfl)
theorem known32_Ridge : Known Try.prog 32 := Known.mk' Try.func32 (by kernel_rfl)

theorem c_implMisses {w : World} {a a1 a2 : Option Addr} {c c1 c2 : Nat} {f : Nat → Option Addr × Nat} {xss : List (List Nat)} {ws gs : List Nat} {b : Option Addr} {d : Nat} {x : List Nat} (hA : Cl w a (hd f xss)) (hR : Rws w f xss) (hW : Cl w a1 (fl ws)) (hG : Cl w a2 (fl gs)) (hB : Cl w b (fl x)) (hsz : bulk xss + ws.length + gs.length ≤ 1050000) : New Try.prog 13 [.agg #[.slice a xss.length c, .slice a1 ws.length c1, .slice a2 gs.length c2], .slice b x.length d] w (fun p : Option Addr × Nat => .tuple #[.slice p.1 (missesD xss ws gs x).length p.2, .bool (fitsD xss ws gs x)]) (fun p => [⟨p.1, fl (missesD xss ws gs x), p.2 * 1, 26⟩]) := by
  refine New.enter Try.func13 rfl Try.ntmps13 (Nat.le_of_ble_eq_true rfl) ?_
  have hr : ∀ i, i < xss.length → (xss.getD i []).length ≤ 1050000 := fun i hi => by have := bulk_row hi; omega
  have hxl : xss.length ≤ bulk xss := by unfold bulk; omega
  refine V.seq ?_
  refine V.region ?_
  refine VL.new1 (.inl rfl) rfl (by decide) (yn_box rfl rfl (.inr ⟨rfl, rfl⟩)) ?_
  intro b2
  refine VL.r (.inl rfl) rfl (by decide) (yr_assign (u := .slice none 0 0) rfl rfl) ?_
  refine VL.r (.inl rfl) rfl (by decide) (yr_assign (u := .bool false) rfl rfl) ?_
  refine VL.nil ?_
  refine VE.then_wp ?_
  refine V.seq ?_
  refine V.seq ?_
  refine V.region ?_
  refine VL.q (.inl rfl) rfl (by decide) (yq_loadS rfl Try.underlying41 sz41_Ridge rfl (by first | exact Sees.root (by assumption) | exact Sees.own (by repeat (first | exact List.mem_cons_self | exact List.mem_append_left _ (by assumption) | apply List.mem_cons_of_mem | apply List.mem_append_right)) | exact Sees.root (hR _ (by omega)) | exact Sees.own (RowsIn.mem (by repeat (first | exact RowsIn.here | exact RowsIn.last | apply RowsIn.there | apply RowsIn.thereS)) _ (by omega)) | exact Sees.own (WRowsIn.mem (by repeat (first | exact WRowsIn.here | exact WRowsIn.last | apply WRowsIn.there | apply WRowsIn.thereS)) _ (by omega))) rfl rfl rfl) ?_
  refine VL.r (.inl rfl) rfl (by decide) (yr_move rfl rfl) ?_
  refine VL.q (.inl rfl) rfl (by decide) (yq_callf rfl known31_Ridge (.cons rfl (.cons rfl .nil)) (fun w hw => (c_areCurrents (by first | exact Sees.root (by assumption) w hw | exact Sees.own (by repeat (first | exact List.mem_cons_self | exact List.mem_append_left _ (by assumption) | apply List.mem_cons_of_mem | apply List.mem_append_right)) w hw) (by first | exact Rws.root (by assumption) hw | exact Rws.own (by repeat (first | exact RowsIn.here | exact RowsIn.last | apply RowsIn.there | apply RowsIn.thereS)) hw) (by first | exact Sees.root (by assumption) w hw | exact Sees.own (by repeat (first | exact List.mem_cons_self | exact List.mem_append_left _ (by assumption) | apply List.mem_cons_of_mem | apply List.mem_append_right)) w hw) (by first | exact Sees.root (by assumption) w hw | exact Sees.own (by repeat (first | exact List.mem_cons_self | exact List.mem_append_left _ (by assumption) | apply List.mem_cons_of_mem | apply List.mem_append_right)) w hw) (by first | exact Sees.root (by assumption) w hw | exact Sees.own (by repeat (first | exact List.mem_cons_self | exact List.mem_append_left _ (by assumption) | apply List.mem_cons_of_mem | apply List.mem_append_right)) w hw) (by omega)))) ?_
  refine VL.r (.inl rfl) rfl (by decide) (yr_not rfl rfl) ?_
  refine VL.nil ?_
  refine VE.then_wp ?_
  refine V.cond rfl (fun h1 => ?_) (fun h1 => ?_)
  · skip
    replace h1 := bnot_t h1
    refine V.seq ?_
    refine V.region ?_
    refine VL.r (.inl rfl) rfl (by decide) (yr_assign (u := .slice none 0 0) rfl rfl) ?_
    refine VL.r (.inl rfl) rfl (by decide) (yr_assign (u := .bool false) rfl rfl) ?_
    refine VL.nil ?_
    refine VE.then_wp ?_
    refine V.ret ?_
    refine VE.then_ret ?_
    refine ret2 rfl rfl rfl (by nofun) (by nofun) (fun w1 hw => ?_)
    have hs : fitsD xss ws gs x = false := h1
    exact ⟨(none, 0), by rw [missesD_no hs, hs]; rfl, hw.below, by rw [missesD_no hs]; simp [fl, Ent.at], List.pairwise_singleton _ _⟩
  · skip
    replace h1 := bnot_f h1
    have hfit := h1
    refine V.skip ?_
    refine VE.then_wp ?_
    refine V.seq ?_
    refine V.region ?_
    refine VL.q (.inl rfl) rfl (by decide) (yq_loadS rfl Try.underlying41 sz41_Ridge rfl (by first | exact Sees.root (by assumption) | exact Sees.own (by repeat (first | exact List.mem_cons_self | exact List.mem_append_left _ (by assumption) | apply List.mem_cons_of_mem | apply List.mem_append_right)) | exact Sees.root (hR _ (by omega)) | exact Sees.own (RowsIn.mem (by repeat (first | exact RowsIn.here | exact RowsIn.last | apply RowsIn.there | apply RowsIn.thereS)) _ (by omega)) | exact Sees.own (WRowsIn.mem (by repeat (first | exact WRowsIn.here | exact WRowsIn.last | apply WRowsIn.there | apply WRowsIn.thereS)) _ (by omega))) rfl rfl rfl) ?_
    refine VL.r (.inl rfl) rfl (by decide) (yr_move rfl rfl) ?_
    refine VL.new1 (.inl rfl) rfl (by decide) (yn_callf rfl known32_Ridge (.cons rfl (.cons rfl .nil)) (fun w hw => (c_misses (by first | exact Sees.root (by assumption) w hw | exact Sees.own (by repeat (first | exact List.mem_cons_self | exact List.mem_append_left _ (by assumption) | apply List.mem_cons_of_mem | apply List.mem_append_right)) w hw) (by first | exact Rws.root (by assumption) hw | exact Rws.own (by repeat (first | exact RowsIn.here | exact RowsIn.last | apply RowsIn.there | apply RowsIn.thereS)) hw) (by first | exact Sees.root (by assumption) w hw | exact Sees.own (by repeat (first | exact List.mem_cons_self | exact List.mem_append_left _ (by assumption) | apply List.mem_cons_of_mem | apply List.mem_append_right)) w hw) (by first | exact Sees.root (by assumption) w hw | exact Sees.own (by repeat (first | exact List.mem_cons_self | exact List.mem_append_left _ (by assumption) | apply List.mem_cons_of_mem | apply List.mem_append_right)) w hw) (by first | exact Sees.root (by assumption) w hw | exact Sees.own (by repeat (first | exact List.mem_cons_self | exact List.mem_append_left _ (by assumption) | apply List.mem_cons_of_mem | apply List.mem_append_right)) w hw) (by omega) (by assumption)))) ?_
    rintro ⟨a12, c12⟩
    refine VL.r (.inl rfl) rfl (by decide) (yr_assign rfl rfl) ?_
    refine VL.r (.inl rfl) rfl (by decide) (yr_assign (u := .bool true) rfl rfl) ?_
    refine VL.nil ?_
    refine VE.then_wp ?_
    refine V.ret ?_
    refine ret2 rfl rfl rfl (by nofun) (by nofun) (fun w1 hw => ?_)
    exact ⟨(a12, c12), by rw [missesD_yes hfit, hfit, missL_length], by rw [missesD_yes hfit]; exact hw.out1⟩

end Go.Proofs.Ytnclpojljgpadaa


namespace Go.Proofs.Ytnclpojljgpadaa
open Go.RowKit

set_option maxRecDepth 20000
theorem wsum_len {ws : List Wr} {m : Nat} (h : ∀ j, j < ws.length → (ws.getD j zw).1.length ≤ m) : ∀ k, k ≤ ws.length → wsum ws k ≤ k * m
  | 0, _ => by rw [wsum_zero]; omega
  | k + 1, hk => by
    rw [wsum_succ (by omega), Nat.add_mul, Nat.one_mul]
    have := wsum_len h k (by omega)
    have := h k (by omega)
    omega
theorem pts3 {u v p : V3} (hu : Pt u) (hv : Pt v) (hp : Pt p) : ∀ i, i < 3 → Pt ([u, v, p].getD i z3) := by
  intro i hi
  rcases (by omega : i = 0 ∨ i = 1 ∨ i = 2) with rfl | rfl | rfl
  · exact hu
  · exact hv
  · exact hp
theorem vl_one {u : V3} {vs : List V3} (i : Nat) (c : Value) (h : (vl [u])[i]? = some c) : (vl (u :: vs))[i]? = some c := by
  have e : vl (u :: vs) = vl [u] ++ vl vs := rfl
  have hi : i < (vl [u]).length := by
    rcases Nat.lt_or_ge i (vl [u]).length with h1 | h1
    · exact h1
    · rw [List.getElem?_eq_none h1] at h; cases h
  rw [e, List.getElem?_append_left hi]
  exact h
section
variable {ws : List Wr} {x : List Nat} {vs : List V3} {way : V3}
theorem WD.bulk (h : WD ws x vs way) : wbulk ws ≤ 1000 ∧ wbulk (setW ws x) ≤ 1000 := by
  have h3 := h.n3
  have k1 := wsum_len (ws := ws) (m := 6) (fun j hj => Nat.le_of_eq (ring_wire (h.ring j hj)).2.1) ws.length (Nat.le_refl _)
  have k2 := wsum_len (ws := setW ws x) (m := 6) (fun j hj => by
    rw [setW_length] at hj
    rw [setW_get hj]
    exact Nat.le_of_eq (ring_wire (h.ring j hj)).2.1) (setW ws x).length (Nat.le_refl _)
  have k3 := setW_length (ws := ws) (x := x)
  unfold wbulk
  omega
theorem WD.wo (h : WD ws x vs way) : wiresOk (setW ws x) = true := (dwOk_is h.fed).2
theorem wantL_fl {n : Nat} : fl (wantL ws x vs way n) ++ [.float .f32 (wantAt ws x way (vs.getD n z3))] = fl (wantL ws x vs way (n + 1)) := by rw [fl_snoc, wantL_snoc]
theorem WD.ff (h : WD ws x vs way) {i : Nat} (hi : i < 3) : fin3 (vs.getD i z3) = true ∧ fin3 (fieldI (setW ws x) (vs.getD i z3)) = true := by
  obtain ⟨_, hf, _⟩ := h.at (h.pt i hi)
  exact ⟨(h.pt i hi).fin3, hf⟩
theorem WD.bx (h : WD ws x vs way) : Go.Proofs.Ytnclpojljgpadaa.bulk (dX ws vs way) ≤ 1000 := Nat.le_trans (bulk_dX h.dw h.dp) (by decide)
theorem WD.fl1' {u : V3} (h : WD ws x (u :: vs) way) : flOk (setW ws x) [u] way = true ∧ fcmp .neq .f32 (flF (setW ws x) [u] way) 0 = false := h.fl1
end
theorem yr_is {P : Program} {E : Env} {o : Oper} {u u' : Value} (h : u = u') (hy : YR P E o u) : YR P E o u' := h ▸ hy
end Go.Proofs.Ytnclpojljgpadaa

