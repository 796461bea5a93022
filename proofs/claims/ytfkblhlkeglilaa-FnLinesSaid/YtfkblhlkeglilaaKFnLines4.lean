/- Own texts of this claim, merged: WLine, Fine, MarkW, WMarkW, WFine, Finer, WFiLine, WFLine, MarkK, Lim, WSetC, WWorst, Mm. -/
import Derived.KernelRfl
import Derived.Test.YtfkblhlkeglilaaMd
import Derived.Test.YtfkblhlkeglilaaKFnLines3
namespace Go.Proofs.Ytfkblhlkeglilaa
open Go.RowKit
set_option linter.unusedVariables false
set_option linter.unusedSimpArgs false
set_option maxRecDepth 20000
theorem zero32_Line : (Try.prog.info? 32).bind (·.zero) = some (Value.agg #[Value.float .f32 0, Value.float .f32 0, Value.float .f32 0]) := by kernel_rfl
theorem fb30_Line : flatB Try.prog 30 = true := by kernel_rfl
theorem sz32_Line : (Try.prog.info? 32).map (·.size) = some 3 := by kernel_rfl
theorem known43_Line : Known Try.prog 43 := Known.mk' Try.func43 (by kernel_rfl)
theorem lay32_Line : Lay Try.prog 32 [Value.float .f32 0, Value.float .f32 0, Value.float .f32 0] [(0, 1), (1, 1), (2, 1)] := Lay.mk' (by kernel_rfl) (by kernel_rfl)
theorem mixed_Line : Try.prog.follows .mixedOrders = true := by kernel_rfl
theorem known32_Line : Known Try.prog 32 := Known.mk' Try.func32 (by kernel_rfl)
theorem known46_Line : Known Try.prog 46 := Known.mk' Try.func46 (by kernel_rfl)
theorem known47_Line : Known Try.prog 47 := Known.mk' Try.func47 (by kernel_rfl)
theorem known44_Line : Known Try.prog 44 := Known.mk' Try.func44 (by kernel_rfl)
theorem known45_Line : Known Try.prog 45 := Known.mk' Try.func45 (by kernel_rfl)
theorem known23_Line : Known Try.prog 23 := Known.mk' Try.func23 (by kernel_rfl)
theorem known24_Line : Known Try.prog 24 := Known.mk' Try.func24 (by kernel_rfl)
theorem known20_Line : Known Try.prog 20 := Known.mk' Try.func20 (by kernel_rfl)
theorem known26_Line : Known Try.prog 26 := Known.mk' Try.func26 (by kernel_rfl)
theorem known42_Line : Known Try.prog 42 := Known.mk' Try.func42 (by kernel_rfl)
theorem known28_Line : Known Try.prog 28 := Known.mk' Try.func28 (by kernel_rfl)
attribute [local irreducible] fop fcmp fconv sqrt32 fneg segF fieldS fieldI List.getD unit3 dirV dirI midI stepV stepOk dirOk
theorem c_fieldOf {w : World} {a : Option Addr} {c : Nat} {ws : List Wr} : New Try.prog 26 [.slice a ws.length c] w (fun p : Nat => .func (.func 42) #[] #[.pointer (some ⟨p, 0, none⟩)]) (fun p => [⟨some ⟨p, 0, none⟩, [.slice a ws.length c], 1, 30⟩]) := by
  refine New.enter Try.func26 rfl Try.ntmps26 (Nat.le_of_ble_eq_true rfl) ?_
  refine V.seq ?_
  refine V.region ?_
  refine VL.new1 (.inl rfl) rfl (by decide) (yn_box rfl rfl (.inl ⟨rfl, rfl⟩)) ?_
  intro b1
  refine VL.r (.inl rfl) rfl (by decide) (yr_assign (u := .nilFunc) rfl rfl) ?_
  refine VL.nil ?_
  refine VE.then_wp ?_
  refine V.seq ?_
  refine V.region ?_
  refine VL.r (.inl rfl) rfl (by decide) (yr_func1 rfl rfl) ?_
  refine VL.r (.inl rfl) rfl (by decide) (yr_assign rfl rfl) ?_
  refine VL.nil ?_
  refine VE.then_wp ?_
  refine V.ret ?_
  refine ret1 rfl rfl (fun w1 hw => ?_)
  exact ⟨b1, rfl, hw.out1⟩
theorem c_fieldOf1 {w : World} {q : Option Addr} {a : Option Addr} {c : Nat} {f : Nat → Option Addr × Nat} {ws : List Wr} {p1 p2 p3 : Nat} (hQ : Cl w q [.slice a ws.length c]) (hA : Cl w a (whd f ws)) (hR : WRws w f ws) (hn : wbulk ws ≤ 1050000) (hv : wiresOk ws = true) : Pure Try.prog 42 [vv (p1, p2, p3), .pointer (some (adr q 0))] w (.tuple #[vv (fieldI ws (p1, p2, p3)), .bool (fin3 (p1, p2, p3) && fin3 (fieldI ws (p1, p2, p3)))]) := by
  refine Pure.enter Try.func42 rfl Try.ntmps42 (Nat.le_of_ble_eq_true rfl) ?_
  refine V.seq ?_
  refine V.region ?_
  refine VL.new1 (.inl rfl) rfl (by decide) (yn_box rfl rfl (.inr ⟨rfl, rfl⟩)) ?_
  intro b2
  refine VL.new1 (.inl rfl) rfl (by decide) (yn_alloc rfl zero32_Line rfl) ?_
  intro b3
  refine VL.r (.inl rfl) rfl (by decide) (yr_assign (u := .bool false) rfl rfl) ?_
  refine VL.nil ?_
  refine VE.then_wp ?_
  refine V.seq ?_
  refine V.region ?_
  refine VL.q (.inl rfl) rfl (by decide) (yq_load rfl fb30_Line rfl zz0 rfl) ?_
  refine VL.q (.inl rfl) rfl (by decide) (yq_loadS rfl Try.underlying32 sz32_Line rfl zz0 rfl rfl rfl) ?_
  refine VL.q (.inl rfl) rfl (by decide) (yq_callf rfl known43_Line (.cons rfl (.cons rfl .nil)) (fun w hw => (c_fieldAll zz2 (by first | exact WRws.root (by assumption) hw | exact WRws.own (by repeat (first | exact WRowsIn.here | exact WRowsIn.last | apply WRowsIn.there | apply WRowsIn.thereS)) hw) (by omega) (by assumption)))) ?_
  refine VL.r (.inl rfl) rfl (by decide) (yr_extract rfl rfl rfl (by nofun)) ?_
  refine VL.r (.inl rfl) rfl (by decide) (yr_extract rfl rfl rfl (by nofun)) ?_
  refine VL.s (.inl rfl) rfl (yc_store rfl sz32_Line rfl rfl zz3 (.inr ⟨rfl, rfl⟩) rfl zz4 (by decide) rfl) ?_
  rintro ⟨⟩
  refine VL.r (.inl rfl) rfl (by decide) (yr_assign rfl rfl) ?_
  refine VL.nil ?_
  refine VE.then_wp ?_
  refine V.ret ?_
  refine retN rfl (.cons (rv_cellS rfl Try.underlying32 sz32_Line zz0 rfl rfl rfl) (.cons (rv_tmp rfl (by nofun)) .nil)) (by nofun) (fun w1 hw => ?_)
  exact ⟨rfl, hw.below⟩
theorem c_dir {w : World} {g : FuncId} {cs : Array Value} {ws : List Wr} {p1 p2 p3 : Nat} (hg : Known Try.prog g) (hF : ∀ w', Below w.heap.size w w' → ∀ q : V3, Pure Try.prog g ([vv q] ++ cs.toList.map cn) w' (.tuple #[vv (fieldI ws q), .bool (fin3 q && fin3 (fieldI ws q))])) : Pure Try.prog 44 [.func (.func g) #[] cs, vv (p1, p2, p3)] w (.tuple #[vv (dirV ws (p1, p2, p3)), .bool (dirOk ws (p1, p2, p3))]) := by
  refine Pure.enter Try.func44 rfl Try.ntmps44 (Nat.le_of_ble_eq_true rfl) ?_
  refine V.seq ?_
  refine V.region ?_
  refine VL.new1 (.inl rfl) rfl (by decide) (yn_box rfl rfl (.inr ⟨rfl, rfl⟩)) ?_
  intro b3
  refine VL.new1 (.inl rfl) rfl (by decide) (yn_alloc rfl zero32_Line rfl) ?_
  intro b4
  refine VL.r (.inl rfl) rfl (by decide) (yr_assign (u := .bool false) rfl rfl) ?_
  refine VL.nil ?_
  refine VE.then_wp ?_
  refine V.seq ?_
  refine V.region ?_
  refine VL.r (.inl rfl) rfl (by decide) (yr_move rfl rfl) ?_
  refine VL.q (.inl rfl) rfl (by decide) (yq_loadS rfl Try.underlying32 sz32_Line rfl zz0 rfl rfl rfl) ?_
  refine VL.q (.inl rfl) rfl (by decide) (yq_call rfl hg rfl (.cons rfl .nil) (fun w hw => hF w hw.below (p1, p2, p3))) ?_
  refine VL.r (.inl rfl) rfl (by decide) (yr_move rfl rfl) ?_
  refine VL.r (.inl rfl) rfl (by decide) (yr_extract rfl rfl rfl (by nofun)) ?_
  refine VL.r (.inl rfl) rfl (by decide) (yr_extract rfl rfl rfl (by nofun)) ?_
  refine VL.new1 (.inl rfl) rfl (by decide) (yn_alloc rfl zero32_Line rfl) ?_
  intro b6
  refine VL.s (.inl rfl) rfl (yc_store rfl sz32_Line rfl rfl zz3 (.inr ⟨rfl, rfl⟩) rfl zz4 (by decide) rfl) ?_
  rintro ⟨⟩
  refine VL.r (.inl rfl) rfl (by decide) (yr_assign rfl rfl) ?_
  refine VL.nil ?_
  refine VE.then_wp ?_
  refine V.seq ?_
  refine V.seq ?_
  refine V.region ?_
  refine VL.r (.inl rfl) rfl (by decide) (yr_move rfl rfl) ?_
  refine VL.r (.inl rfl) rfl (by decide) (yr_not rfl rfl) ?_
  refine VL.nil ?_
  refine VE.then_wp ?_
  refine V.cond rfl (fun h1 => ?_) (fun h1 => ?_)
  · skip
    replace h1 := bnot_t h1
    refine V.seq ?_
    refine V.region ?_
    refine VL.r (.inl rfl) rfl (by decide) (yr_build rfl lay32_Line rfl .nil zz7 rfl) ?_
    refine VL.s (.inl rfl) rfl (yc_store rfl sz32_Line rfl rfl zz3 (.inr ⟨rfl, rfl⟩) rfl zz4 (by decide) rfl) ?_
    rintro ⟨⟩
    refine VL.r (.inl rfl) rfl (by decide) (yr_assign (u := .bool false) rfl rfl) ?_
    refine VL.nil ?_
    refine VE.then_wp ?_
    refine V.ret ?_
    refine VE.then_ret ?_
    refine retN rfl (.cons (rv_cellS rfl Try.underlying32 sz32_Line zz0 rfl rfl rfl) (.cons (rv_tmp rfl (by nofun)) .nil)) (by nofun) (fun w1 hw => ?_)
    first
      | exact ⟨dir_no (ws := ws) (p := (p1, p2, p3)) (by assumption), hw.below⟩
      | with_unfolding_all exact ⟨dir_yes (ws := ws) (p := (p1, p2, p3)) (by assumption), hw.below⟩
  replace h1 := bnot_f h1
  refine V.skip ?_
  refine VE.then_wp ?_
  refine V.seq ?_
  refine V.draw [(0, 0), (1, 0), (2, 0), (3, 0), (4, 0), (5, 0), (6, 0), (7, 0), (8, 3), (9, 0)] mixed_Line (by kernel_rfl) (by intro j o hj; simp at hj) ?_
  refine SW.q rfl (.inl rfl) rfl (by decide) (yq_loadS rfl Try.underlying32 sz32_Line rfl zz0 rfl rfl rfl) ?_
  refine SW.q rfl (.inl rfl) rfl (by decide) (yq_loadS rfl Try.underlying32 sz32_Line rfl zz0 rfl rfl rfl) ?_
  refine SW.q rfl (.inl rfl) rfl (by decide) (yq_callf rfl known32_Line (.cons rfl .nil) (fun w hw => c_long3)) ?_
  refine SW.r rfl (.inl rfl) rfl (by decide) (yr_float (a := 1065353216) rfl (.inr (.inr (.inr rfl))) rfl rfl) ?_
  refine SW.q rfl (.inl rfl) rfl (by decide) (yq_callf rfl known46_Line (.cons rfl (.cons rfl .nil)) (fun w hw => c_scale3)) ?_
  refine SW.q rfl (.inl rfl) rfl (by decide) (yq_callf rfl known47_Line (.cons rfl .nil) (fun w hw => c_ifV)) ?_
  refine SW.r rfl (.inl rfl) rfl (by decide) (yr_extract rfl rfl rfl (by nofun)) ?_
  refine SW.r rfl (.inl rfl) rfl (by decide) (yr_extract rfl rfl rfl (by nofun)) ?_
  refine SW.s rfl (.inl rfl) rfl (yc_store rfl sz32_Line rfl rfl zz3 (.inr ⟨rfl, rfl⟩) rfl zz4 (by decide) rfl) ?_
  rintro ⟨⟩
  refine SW.r rfl (.inl rfl) rfl (by decide) (yr_assign rfl rfl) ?_
  refine SW.done ?_
  refine VE.then_wp ?_
  refine V.ret ?_
  refine retN rfl (.cons (rv_cellS rfl Try.underlying32 sz32_Line zz0 rfl rfl rfl) (.cons (rv_tmp rfl (by nofun)) .nil)) (by nofun) (fun w1 hw => ?_)
  first
    | exact ⟨dir_no (ws := ws) (p := (p1, p2, p3)) (by assumption), hw.below⟩
    | with_unfolding_all exact ⟨dir_yes (ws := ws) (p := (p1, p2, p3)) (by assumption), hw.below⟩
theorem c_step {w : World} {g : FuncId} {cs : Array Value} {ws : List Wr} {p1 p2 p3 : Nat} {st : Nat} (hg : Known Try.prog g) (hF : ∀ w', Below w.heap.size w w' → ∀ q : V3, Pure Try.prog g ([vv q] ++ cs.toList.map cn) w' (.tuple #[vv (fieldI ws q), .bool (fin3 q && fin3 (fieldI ws q))])) : Pure Try.prog 28 [.func (.func g) #[] cs, vv (p1, p2, p3), .float .f32 st] w (.tuple #[vv (stepV ws (p1, p2, p3) st), .bool (stepOk ws (p1, p2, p3) st)]) := by
  refine Pure.enter Try.func28 rfl Try.ntmps28 (Nat.le_of_ble_eq_true rfl) ?_
  refine V.seq ?_
  refine V.region ?_
  refine VL.new1 (.inl rfl) rfl (by decide) (yn_box rfl rfl (.inr ⟨rfl, rfl⟩)) ?_
  intro b4
  refine VL.new1 (.inl rfl) rfl (by decide) (yn_alloc rfl zero32_Line rfl) ?_
  intro b6
  refine VL.r (.inl rfl) rfl (by decide) (yr_assign (u := .bool false) rfl rfl) ?_
  refine VL.nil ?_
  refine VE.then_wp ?_
  refine V.seq ?_
  refine V.region ?_
  refine VL.r (.inl rfl) rfl (by decide) (yr_move rfl rfl) ?_
  refine VL.q (.inl rfl) rfl (by decide) (yq_loadS rfl Try.underlying32 sz32_Line rfl zz0 rfl rfl rfl) ?_
  refine VL.q (.inl rfl) rfl (by decide) (yq_callf rfl known44_Line (.cons rfl (.cons rfl .nil)) (fun w hw => (c_dir hg (fun w1 hb => hF w1 (hw.below.trans (hb.mono hw.below.size)))))) ?_
  refine VL.r (.inl rfl) rfl (by decide) (yr_move rfl rfl) ?_
  refine VL.r (.inl rfl) rfl (by decide) (yr_extract rfl rfl rfl (by nofun)) ?_
  refine VL.r (.inl rfl) rfl (by decide) (yr_extract rfl rfl rfl (by nofun)) ?_
  refine VL.new1 (.inl rfl) rfl (by decide) (yn_alloc rfl zero32_Line rfl) ?_
  intro b8
  refine VL.s (.inl rfl) rfl (yc_store rfl sz32_Line rfl rfl zz3 (.inr ⟨rfl, rfl⟩) rfl zz4 (by decide) rfl) ?_
  rintro ⟨⟩
  refine VL.r (.inl rfl) rfl (by decide) (yr_assign rfl rfl) ?_
  refine VL.nil ?_
  refine VE.then_wp ?_
  refine V.seq ?_
  refine V.seq ?_
  refine V.region ?_
  refine VL.r (.inl rfl) rfl (by decide) (yr_move rfl rfl) ?_
  refine VL.r (.inl rfl) rfl (by decide) (yr_not rfl rfl) ?_
  refine VL.nil ?_
  refine VE.then_wp ?_
  refine V.cond rfl (fun h1 => ?_) (fun h1 => ?_)
  · skip
    replace h1 := bnot_t h1
    refine V.seq ?_
    refine V.region ?_
    refine VL.r (.inl rfl) rfl (by decide) (yr_build rfl lay32_Line rfl .nil zz7 rfl) ?_
    refine VL.s (.inl rfl) rfl (yc_store rfl sz32_Line rfl rfl zz3 (.inr ⟨rfl, rfl⟩) rfl zz4 (by decide) rfl) ?_
    rintro ⟨⟩
    refine VL.r (.inl rfl) rfl (by decide) (yr_assign (u := .bool false) rfl rfl) ?_
    refine VL.nil ?_
    refine VE.then_wp ?_
    refine V.ret ?_
    refine VE.then_ret ?_
    refine retN rfl (.cons (rv_cellS rfl Try.underlying32 sz32_Line zz0 rfl rfl rfl) (.cons (rv_tmp rfl (by nofun)) .nil)) (by nofun) (fun w1 hw => ?_)
    first
      | exact ⟨step_i1 (ws := ws) (p := (p1, p2, p3)) (st := st) (by assumption), hw.below⟩
      | exact ⟨step_i2 (ws := ws) (p := (p1, p2, p3)) (st := st) (by assumption) (by assumption), hw.below⟩
      | exact ⟨step_i3 (ws := ws) (p := (p1, p2, p3)) (st := st) (by assumption) (by assumption), hw.below⟩
  replace h1 := bnot_f h1
  refine V.skip ?_
  refine VE.then_wp ?_
  refine V.seq ?_
  refine Dr.V.drawR [(0, 5), (1, 5), (2, 5), (3, 5), (4, 5), (5, 5), (6, 5), (7, 5), (8, 5), (9, 5), (10, 5), (11, 2), (12, 3), (13, 5)] [(11, ((fun b => .pointer (some (adr (some ⟨b, 0, none⟩) 0))), (fun b => ⟨some ⟨b, 0, none⟩, [Value.float .f32 0, Value.float .f32 0, Value.float .f32 0], 3, 32⟩)))] [] _ mixed_Line (by kernel_rfl) (fun w hw => hw) ?_
  refine Dr.SW.r rfl (.inl rfl) rfl (by decide) (yr_move rfl rfl) ?_
  refine Dr.SW.p rfl (.inl rfl) rfl (by decide) (yq_loadS rfl Try.underlying32 sz32_Line rfl zz1 rfl rfl rfl) ?_
  refine Dr.SW.p rfl (.inl rfl) rfl (by decide) (yq_loadS rfl Try.underlying32 sz32_Line rfl zz1 rfl rfl rfl) ?_
  refine Dr.SW.r rfl (.inl rfl) rfl (by decide) (yr_move rfl rfl) ?_
  refine Dr.SW.r rfl (.inl rfl) rfl (by decide) (yr_float (a := 1056964608) rfl (.inr (.inr (.inl rfl))) rfl rfl) ?_
  refine Dr.SW.p rfl (.inl rfl) rfl (by decide) (yq_callf rfl known46_Line (.cons rfl (.cons rfl .nil)) (fun w hw => c_scale3)) ?_
  refine Dr.SW.p rfl (.inl rfl) rfl (by decide) (yq_callf rfl known45_Line (.cons rfl (.cons rfl .nil)) (fun w hw => c_add3)) ?_
  refine Dr.SW.p rfl (.inl rfl) rfl (by decide) (yq_callf rfl known44_Line (.cons rfl (.cons rfl .nil)) (fun w hw => (c_dir hg (fun w1 hb => hF w1 (hw.below.trans (hb.mono hw.below.size)))))) ?_
  refine Dr.SW.r rfl (.inl rfl) rfl (by decide) (yr_move rfl rfl) ?_
  refine Dr.SW.r rfl (.inl rfl) rfl (by decide) (yr_extract rfl rfl rfl (by nofun)) ?_
  refine Dr.SW.r rfl (.inl rfl) rfl (by decide) (yr_extract rfl rfl rfl (by nofun)) ?_
  refine Dr.SW.a rfl rfl rfl (by decide) rfl (fun w0 => (yn_alloc rfl zero32_Line rfl)) ?_
  intro b10
  refine Dr.SW.s rfl (.inl rfl) rfl (yc_store rfl sz32_Line rfl rfl (Dr.UpdF.app zz3) (.inr ⟨rfl, rfl⟩) rfl zz4 (by decide) rfl) ?_
  rintro ⟨⟩
  refine Dr.SW.r rfl (.inl rfl) rfl (by decide) (yr_assign rfl rfl) ?_
  refine Dr.SW.done ?_
  refine Dr.eqO (by simp only [List.append_nil, List.append_assoc, List.cons_append, List.nil_append] <;> rfl) ?_
  refine VE.then_wp ?_
  refine V.seq ?_
  refine V.seq ?_
  refine V.region ?_
  refine VL.r (.inl rfl) rfl (by decide) (yr_move rfl rfl) ?_
  refine VL.r (.inl rfl) rfl (by decide) (yr_not rfl rfl) ?_
  refine VL.nil ?_
  refine VE.then_wp ?_
  refine V.cond rfl (fun h2 => ?_) (fun h2 => ?_)
  · skip
    replace h2 := bnot_t h2
    refine V.seq ?_
    refine V.region ?_
    refine VL.r (.inl rfl) rfl (by decide) (yr_build rfl lay32_Line rfl .nil zz7 rfl) ?_
    refine VL.s (.inl rfl) rfl (yc_store rfl sz32_Line rfl rfl zz3 (.inr ⟨rfl, rfl⟩) rfl zz4 (by decide) rfl) ?_
    rintro ⟨⟩
    refine VL.r (.inl rfl) rfl (by decide) (yr_assign (u := .bool false) rfl rfl) ?_
    refine VL.nil ?_
    refine VE.then_wp ?_
    refine V.ret ?_
    refine VE.then_ret ?_
    refine retN rfl (.cons (rv_cellS rfl Try.underlying32 sz32_Line zz0 rfl rfl rfl) (.cons (rv_tmp rfl (by nofun)) .nil)) (by nofun) (fun w1 hw => ?_)
    first
      | exact ⟨step_i1 (ws := ws) (p := (p1, p2, p3)) (st := st) (by assumption), hw.below⟩
      | exact ⟨step_i2 (ws := ws) (p := (p1, p2, p3)) (st := st) (by assumption) (by assumption), hw.below⟩
      | exact ⟨step_i3 (ws := ws) (p := (p1, p2, p3)) (st := st) (by assumption) (by assumption), hw.below⟩
  replace h2 := bnot_f h2
  refine V.skip ?_
  refine VE.then_wp ?_
  refine V.seq ?_
  refine V.draw [(0, 0), (1, 0), (2, 0), (3, 0), (4, 0), (5, 0), (6, 0), (7, 0), (8, 3), (9, 0)] mixed_Line (by kernel_rfl) (by intro j o hj; simp at hj) ?_
  refine SW.q rfl (.inl rfl) rfl (by decide) (yq_loadS rfl Try.underlying32 sz32_Line rfl zz0 rfl rfl rfl) ?_
  refine SW.q rfl (.inl rfl) rfl (by decide) (yq_loadS rfl Try.underlying32 sz32_Line rfl zz0 rfl rfl rfl) ?_
  refine SW.r rfl (.inl rfl) rfl (by decide) (yr_move rfl rfl) ?_
  refine SW.q rfl (.inl rfl) rfl (by decide) (yq_callf rfl known46_Line (.cons rfl (.cons rfl .nil)) (fun w hw => c_scale3)) ?_
  refine SW.q rfl (.inl rfl) rfl (by decide) (yq_callf rfl known45_Line (.cons rfl (.cons rfl .nil)) (fun w hw => c_add3)) ?_
  refine SW.q rfl (.inl rfl) rfl (by decide) (yq_callf rfl known47_Line (.cons rfl .nil) (fun w hw => c_ifV)) ?_
  refine SW.r rfl (.inl rfl) rfl (by decide) (yr_extract rfl rfl rfl (by nofun)) ?_
  refine SW.r rfl (.inl rfl) rfl (by decide) (yr_extract rfl rfl rfl (by nofun)) ?_
  refine SW.s rfl (.inl rfl) rfl (yc_store rfl sz32_Line rfl rfl zz3 (.inr ⟨rfl, rfl⟩) rfl zz4 (by decide) rfl) ?_
  rintro ⟨⟩
  refine SW.r rfl (.inl rfl) rfl (by decide) (yr_assign rfl rfl) ?_
  refine SW.done ?_
  refine VE.then_wp ?_
  refine V.ret ?_
  refine retN rfl (.cons (rv_cellS rfl Try.underlying32 sz32_Line zz0 rfl rfl rfl) (.cons (rv_tmp rfl (by nofun)) .nil)) (by nofun) (fun w1 hw => ?_)
  first
    | exact ⟨step_i1 (ws := ws) (p := (p1, p2, p3)) (st := st) (by assumption), hw.below⟩
    | exact ⟨step_i2 (ws := ws) (p := (p1, p2, p3)) (st := st) (by assumption) (by assumption), hw.below⟩
    | exact ⟨step_i3 (ws := ws) (p := (p1, p2, p3)) (st := st) (by assumption) (by assumption), hw.below⟩
theorem c_implStepL {w : World} {a : Option Addr} {c : Nat} {f : Nat → Option Addr × Nat} {ws : List Wr} {p1 p2 p3 : Nat} {st : Nat} (hA : Cl w a (whd f ws)) (hR : WRws w f ws) (hn : wbulk ws ≤ 1050000) : Pure Try.prog 9 [.slice a ws.length c, vv (p1, p2, p3), .float .f32 st] w (.tuple #[vv (slV ws (p1, p2, p3) st), .bool (slOk ws (p1, p2, p3) st)]) := by
  refine Pure.enter Try.func9 rfl Try.ntmps9 (Nat.le_of_ble_eq_true rfl) ?_
  have hwl : ws.length ≤ wbulk ws := by unfold wbulk; omega
  have hrw : ∀ k, k < ws.length → (ws.getD k zw).1.length ≤ 1050000 := fun k hk => by have := wbulk_row hk; omega
  refine V.seq ?_
  refine V.region ?_
  refine VL.new1 (.inl rfl) rfl (by decide) (yn_box rfl rfl (.inr ⟨rfl, rfl⟩)) ?_
  intro b4
  refine VL.new1 (.inl rfl) rfl (by decide) (yn_alloc rfl zero32_Line rfl) ?_
  intro b6
  refine VL.r (.inl rfl) rfl (by decide) (yr_assign (u := .bool false) rfl rfl) ?_
  refine VL.nil ?_
  refine VE.then_wp ?_
  refine V.seq ?_
  refine V.seq ?_
  refine V.region ?_
  refine VL.r (.inl rfl) rfl (by decide) (yr_move rfl rfl) ?_
  refine VL.q (.inl rfl) rfl (by decide) (yq_callf rfl known23_Line (.cons rfl .nil) (fun w hw => (c_implAre zz2 (by first | exact WRws.root (by assumption) hw | exact WRws.own (by repeat (first | exact WRowsIn.here | exact WRowsIn.last | apply WRowsIn.there | apply WRowsIn.thereS)) hw) (by omega)))) ?_
  refine VL.r (.inl rfl) rfl (by decide) (yr_not rfl rfl) ?_
  refine VL.r (.inl rfl) rfl (by decide) (yr_move rfl rfl) ?_
  refine VX.split 11 _ rfl (fun h1 => ?_) (fun h1 => ?_)
  · skip
    replace h1 := bnot_t h1
    refine VL.no rfl rfl rfl rfl rfl (by decide) ?_
    refine VL.no rfl rfl rfl rfl rfl (by decide) ?_
    refine VL.no rfl rfl rfl rfl rfl (by decide) ?_
    refine VL.r (.inl rfl) rfl (by decide) (yr_pick_t (u := .bool true) rfl rfl rfl) ?_
    refine VL.r (.inl rfl) rfl (by decide) (yr_move rfl rfl) ?_
    refine VL.no rfl rfl rfl rfl rfl (by decide) ?_
    refine VL.no rfl rfl rfl rfl rfl (by decide) ?_
    refine VL.no rfl rfl rfl rfl rfl (by decide) ?_
    refine VL.r (.inl rfl) rfl (by decide) (yr_pick_t (u := .bool true) rfl rfl rfl) ?_
    refine VL.nil ?_
    refine VE.then_wp ?_
    refine V.condT rfl ?_
    refine V.seq ?_
    refine V.region ?_
    refine VL.r (.inl rfl) rfl (by decide) (yr_build rfl lay32_Line rfl .nil zz7 rfl) ?_
    refine VL.s (.inl rfl) rfl (yc_store rfl sz32_Line rfl rfl zz3 (.inr ⟨rfl, rfl⟩) rfl zz4 (by decide) rfl) ?_
    rintro ⟨⟩
    refine VL.r (.inl rfl) rfl (by decide) (yr_assign (u := .bool false) rfl rfl) ?_
    refine VL.nil ?_
    refine VE.then_wp ?_
    refine V.ret ?_
    refine VE.then_ret ?_
    refine retN rfl (.cons (rv_cellS rfl Try.underlying32 sz32_Line zz0 rfl rfl rfl) (.cons (rv_tmp rfl (by nofun)) .nil)) (by nofun) (fun w1 hw => ?_)
    first
      | exact ⟨sl_no1 (ws := ws) (p := (p1, p2, p3)) (st := st) (by assumption), hw.below⟩
      | exact ⟨sl_no2 (ws := ws) (p := (p1, p2, p3)) (st := st) (by assumption), hw.below⟩
      | exact ⟨sl_no3 (ws := ws) (p := (p1, p2, p3)) (st := st) (by assumption), hw.below⟩
      | exact ⟨sl_yes (ws := ws) (p := (p1, p2, p3)) (st := st) (by assumption) (by assumption) (by assumption), hw.below⟩
  replace h1 := bnot_f h1
  refine VL.q (.inr ⟨_, _, _, rfl, rfl, rfl⟩) rfl (by decide) (yq_loadS rfl Try.underlying32 sz32_Line rfl zz0 rfl rfl rfl) ?_
  refine VL.q (.inr ⟨_, _, _, rfl, rfl, rfl⟩) rfl (by decide) (yq_callf rfl known24_Line (.cons rfl .nil) (fun w hw => c_fin3)) ?_
  refine VL.r (.inr ⟨_, _, _, rfl, rfl, rfl⟩) rfl (by decide) (yr_not rfl rfl) ?_
  refine VL.r (.inl rfl) rfl (by decide) (yr_pick_f rfl rfl rfl) ?_
  refine VL.r (.inl rfl) rfl (by decide) (yr_move rfl rfl) ?_
  refine VX.split 16 _ rfl (fun h3 => ?_) (fun h3 => ?_)
  · skip
    replace h3 := bnot_t h3
    refine VL.no rfl rfl rfl rfl rfl (by decide) ?_
    refine VL.no rfl rfl rfl rfl rfl (by decide) ?_
    refine VL.no rfl rfl rfl rfl rfl (by decide) ?_
    refine VL.r (.inl rfl) rfl (by decide) (yr_pick_t (u := .bool true) rfl rfl rfl) ?_
    refine VL.nil ?_
    refine VE.then_wp ?_
    refine V.condT rfl ?_
    refine V.seq ?_
    refine V.region ?_
    refine VL.r (.inl rfl) rfl (by decide) (yr_build rfl lay32_Line rfl .nil zz7 rfl) ?_
    refine VL.s (.inl rfl) rfl (yc_store rfl sz32_Line rfl rfl zz3 (.inr ⟨rfl, rfl⟩) rfl zz4 (by decide) rfl) ?_
    rintro ⟨⟩
    refine VL.r (.inl rfl) rfl (by decide) (yr_assign (u := .bool false) rfl rfl) ?_
    refine VL.nil ?_
    refine VE.then_wp ?_
    refine V.ret ?_
    refine VE.then_ret ?_
    refine retN rfl (.cons (rv_cellS rfl Try.underlying32 sz32_Line zz0 rfl rfl rfl) (.cons (rv_tmp rfl (by nofun)) .nil)) (by nofun) (fun w1 hw => ?_)
    first
      | exact ⟨sl_no1 (ws := ws) (p := (p1, p2, p3)) (st := st) (by assumption), hw.below⟩
      | exact ⟨sl_no2 (ws := ws) (p := (p1, p2, p3)) (st := st) (by assumption), hw.below⟩
      | exact ⟨sl_no3 (ws := ws) (p := (p1, p2, p3)) (st := st) (by assumption), hw.below⟩
      | exact ⟨sl_yes (ws := ws) (p := (p1, p2, p3)) (st := st) (by assumption) (by assumption) (by assumption), hw.below⟩
  replace h3 := bnot_f h3
  refine VL.r (.inr ⟨_, _, _, rfl, rfl, rfl⟩) rfl (by decide) (yr_move rfl rfl) ?_
  refine VL.q (.inr ⟨_, _, _, rfl, rfl, rfl⟩) rfl (by decide) (yq_callf rfl known20_Line (.cons rfl .nil) (fun w hw => c_IsFinite _)) ?_
  refine VL.r (.inr ⟨_, _, _, rfl, rfl, rfl⟩) rfl (by decide) (yr_not rfl rfl) ?_
  refine VL.r (.inl rfl) rfl (by decide) (yr_pick_f rfl rfl rfl) ?_
  refine VL.nil ?_
  refine VE.then_wp ?_
  refine V.cond rfl (fun h5 => ?_) (fun h5 => ?_)
  · skip
    replace h5 := bnot_t h5
    refine V.seq ?_
    refine V.region ?_
    refine VL.r (.inl rfl) rfl (by decide) (yr_build rfl lay32_Line rfl .nil zz7 rfl) ?_
    refine VL.s (.inl rfl) rfl (yc_store rfl sz32_Line rfl rfl zz3 (.inr ⟨rfl, rfl⟩) rfl zz4 (by decide) rfl) ?_
    rintro ⟨⟩
    refine VL.r (.inl rfl) rfl (by decide) (yr_assign (u := .bool false) rfl rfl) ?_
    refine VL.nil ?_
    refine VE.then_wp ?_
    refine V.ret ?_
    refine VE.then_ret ?_
    refine retN rfl (.cons (rv_cellS rfl Try.underlying32 sz32_Line zz0 rfl rfl rfl) (.cons (rv_tmp rfl (by nofun)) .nil)) (by nofun) (fun w1 hw => ?_)
    first
      | exact ⟨sl_no1 (ws := ws) (p := (p1, p2, p3)) (st := st) (by assumption), hw.below⟩
      | exact ⟨sl_no2 (ws := ws) (p := (p1, p2, p3)) (st := st) (by assumption), hw.below⟩
      | exact ⟨sl_no3 (ws := ws) (p := (p1, p2, p3)) (st := st) (by assumption), hw.below⟩
      | exact ⟨sl_yes (ws := ws) (p := (p1, p2, p3)) (st := st) (by assumption) (by assumption) (by assumption), hw.below⟩
  replace h5 := bnot_f h5
  refine V.skip ?_
  refine VE.then_wp ?_
  refine V.seq ?_
  refine V.draw [(0, 0), (2, 0), (3, 0), (1, 1), (4, 0), (5, 0), (6, 0), (7, 3), (8, 0)] mixed_Line (by kernel_rfl) (by intro j o hj; simp at hj) ?_
  refine SW.r rfl (.inl rfl) rfl (by decide) (yr_move rfl rfl) ?_
  refine SW.q rfl (.inl rfl) rfl (by decide) (yq_loadS rfl Try.underlying32 sz32_Line rfl zz0 rfl rfl rfl) ?_
  refine SW.r rfl (.inl rfl) rfl (by decide) (yr_move rfl rfl) ?_
  refine SW.new1 rfl (.inl rfl) rfl (by decide) (yn_callf rfl known26_Line (.cons rfl .nil) (fun w hw => c_fieldOf)) ?_
  intro b23
  refine SW.q rfl (.inl rfl) rfl (by decide) (yq_callf rfl known28_Line (.cons rfl (.cons rfl (.cons rfl .nil))) (fun w hw => (c_step known42_Line (fun w1 hb q => c_fieldOf1 (q := some ⟨b23, 0, none⟩) (p1 := q.1) (p2 := q.2.1) (p3 := q.2.2) (Cl.below (Sees.own (by repeat (first | exact List.mem_cons_self | apply List.mem_cons_of_mem | apply List.mem_append_right)) w hw) hb) ((Sees.root hA w hw).below hb) ((hR.root hw).below hb) hn (by assumption))))) ?_
  refine SW.r rfl (.inl rfl) rfl (by decide) (yr_extract rfl rfl rfl (by nofun)) ?_
  refine SW.r rfl (.inl rfl) rfl (by decide) (yr_extract rfl rfl rfl (by nofun)) ?_
  refine SW.s rfl (.inl rfl) rfl (yc_store rfl sz32_Line rfl rfl zz3 (.inr ⟨rfl, rfl⟩) rfl zz4 (by decide) rfl) ?_
  rintro ⟨⟩
  refine SW.r rfl (.inl rfl) rfl (by decide) (yr_assign rfl rfl) ?_
  refine SW.done ?_
  refine VE.then_wp ?_
  refine V.ret ?_
  refine retN rfl (.cons (rv_cellS rfl Try.underlying32 sz32_Line zz0 rfl rfl rfl) (.cons (rv_tmp rfl (by nofun)) .nil)) (by nofun) (fun w1 hw => ?_)
  first
    | exact ⟨sl_no1 (ws := ws) (p := (p1, p2, p3)) (st := st) (by assumption), hw.below⟩
    | exact ⟨sl_no2 (ws := ws) (p := (p1, p2, p3)) (st := st) (by assumption), hw.below⟩
    | exact ⟨sl_no3 (ws := ws) (p := (p1, p2, p3)) (st := st) (by assumption), hw.below⟩
    | exact ⟨sl_yes (ws := ws) (p := (p1, p2, p3)) (st := st) (by assumption) (by assumption) (by assumption), hw.below⟩
end Go.Proofs.Ytfkblhlkeglilaa

namespace Go.Proofs.Ytfkblhlkeglilaa
open Go.RowKit
def stK (ws : List Wr) (p : V3) (h : Nat) : Nat → V3 × Bool
  | 0 => (p, true)
  | k + 1 => if (stK ws p h k).2 then (stepV ws (stK ws p h k).1 h, stepOk ws (stK ws p h k).1 h) else (z3, false)
theorem stK_zero (ws : List Wr) (p : V3) (h : Nat) : stK ws p h 0 = (p, true) := rfl
section
variable {ws : List Wr} {p : V3} {h st near : Nat}
theorem stK_succ {k : Nat} (hk : (stK ws p h k).2 = true) : stK ws p h (k + 1) = (stepV ws (stK ws p h k).1 h, stepOk ws (stK ws p h k).1 h) := by rw [stK, hk]; rfl
theorem stK_box {k : Nat} (hk : (stK ws p h k).2 = true) : stepV ws (stK ws p h k).1 h = (stK ws p h (k + 1)).1 := by rw [stK_succ hk]
theorem stK_ok {k : Nat} (hk : (stK ws p h k).2 = true) (h2 : stepOk ws (stK ws p h k).1 h = true) : (stK ws p h (k + 1)).2 = true ∧ fin3 (stK ws p h (k + 1)).1 = true := by
  rw [stK_succ hk]; exact ⟨h2, step_fin h2⟩
theorem stK_dead : ∀ {n k : Nat}, stK ws p h k = (z3, false) → k ≤ n → stK ws p h n = (z3, false)
  | 0, k, h1, h2 => by rwa [show k = 0 by omega] at h1
  | n + 1, k, h1, h2 => by
    by_cases e : k = n + 1
    · rwa [e] at h1
    · rw [stK, stK_dead h1 (by omega)]; rfl
theorem stK_bad {n k : Nat} (hk : (stK ws p h k).2 = true) (h2 : stepOk ws (stK ws p h k).1 h = false) (hn : k < n) : stK ws p h n = (z3, false) :=
  stK_dead (k := k + 1) (by rw [stK_succ hk, h2]; unfold stepV; rw [h2]; rfl) (by omega)
theorem can_stK (hp : Can3 p) : ∀ k, Can3 (stK ws p h k).1
  | 0 => hp
  | k + 1 => by
    rw [stK]; split
    · exact can_stepV
    · exact can_z3
end
def hN (st n : Nat) : Nat := fop .quo .f32 st (FloatKind.f32.nearest (n : Int))
def stN (ws : List Wr) (p : V3) (st n : Nat) : V3 × Bool := stK ws p (hN st n) n
theorem stN_bad {ws : List Wr} {p : V3} {st n k : Nat} (hk : (stK ws p (hN st n) k).2 = true) (h2 : stepOk ws (stK ws p (hN st n) k).1 (hN st n) = false) (hn : k < n) : Value.tuple #[vv z3, .bool false] = .tuple #[vv (stN ws p st n).1, .bool (stN ws p st n).2] := by
  unfold stN; rw [stK_bad hk h2 hn]
theorem stN_yes {ws : List Wr} {p : V3} {st n : Nat} (hk : (stK ws p (hN st n) n).2 = true) : Value.tuple #[vv (stK ws p (hN st n) n).1, .bool true] = .tuple #[vv (stN ws p st n).1, .bool (stN ws p st n).2] := by
  unfold stN; rw [hk]
def pw (i : Nat) : Nat := 2 ^ i
theorem pw_succ (i : Nat) : pw (i + 1) = 2 * pw i := by unfold pw; rw [Nat.pow_succ, Nat.mul_comm]
theorem pw_facts {i : Nat} (h : i ≤ 6) : (i < 6 → pw i ≤ 32) ∧ (i = 6 → pw i = 64) ∧ 1 ≤ pw i ∧ pw i ≤ 64 := by
  have : ∀ j : Fin 7, (j.val < 6 → pw j.val ≤ 32) ∧ (j.val = 6 → pw j.val = 64) ∧ 1 ≤ pw j.val ∧ pw j.val ≤ 64 := by decide
  exact this ⟨i, by omega⟩
def fineOk (ws : List Wr) (p : V3) (st near i : Nat) : Bool := (stN ws p st (pw i)).2 && (stN ws p st (2 * pw i)).2 && fcmp .leq .f32 (long3 (sub3 (stN ws p st (pw i)).1 (stN ws p st (2 * pw i)).1)) near
section
variable {ws : List Wr} {p : V3} {st near i : Nat}
theorem fo_1 (h : (stN ws p st (pw i)).2 = false) : fineOk ws p st near i = false := by unfold fineOk; rw [h]; rfl
theorem fo_2 (h : (stN ws p st (2 * pw i)).2 = false) : fineOk ws p st near i = false := by unfold fineOk; rw [h, Bool.and_false]; rfl
theorem fo_3 (h : fcmp .leq .f32 (long3 (sub3 (stN ws p st (pw i)).1 (stN ws p st (2 * pw i)).1)) near = false) : fineOk ws p st near i = false := by unfold fineOk; rw [h, Bool.and_false]
theorem fo_yes (h : (stN ws p st (pw i)).2 = true) (h1 : (stN ws p st (2 * pw i)).2 = true) (h2 : fcmp .leq .f32 (long3 (sub3 (stN ws p st (pw i)).1 (stN ws p st (2 * pw i)).1)) near = true) : fineOk ws p st near i = true := by unfold fineOk; rw [h, h1, h2]; rfl
theorem fo_step (hI : ∀ j, j < i → fineOk ws p st near j = false) (h : fineOk ws p st near i = false) : ∀ j, j < i + 1 → fineOk ws p st near j = false := fun j hj => by
  rcases Nat.lt_or_ge j i with h1 | h1
  · exact hI j h1
  · obtain rfl : j = i := by omega
    exact h
end
def fnI (ws : List Wr) (p : V3) (st near : Nat) : Int := idxI (fineOk ws p st near) 6
def fnB (ws : List Wr) (p : V3) (st near : Nat) : Bool := decide (0 ≤ fnI ws p st near)
def fnN (ws : List Wr) (p : V3) (st near : Nat) : Nat := if fnB ws p st near then pw (fnI ws p st near).toNat else 0
def fnV (ws : List Wr) (p : V3) (st near : Nat) : V3 := if fnB ws p st near then (stN ws p st (2 * pw (fnI ws p st near).toNat)).1 else z3
section
variable {ws : List Wr} {p : V3} {st near i : Nat}
theorem fn_yes (hI : ∀ j, j < i → fineOk ws p st near j = false) (hi : i < 6) (h : fineOk ws p st near i = true) :
    Value.tuple #[vv (stN ws p st (2 * pw i)).1, .int .i64 (pw i : Int), .bool true] = .tuple #[vv (fnV ws p st near), .int .i64 (fnN ws p st near : Int), .bool (fnB ws p st near)] := by
  have h1 : fnI ws p st near = i := idxI_of hI h hi
  have h2 : fnB ws p st near = true := by unfold fnB; rw [h1]; exact decide_eq_true (by omega)
  unfold fnV fnN; rw [h2, h1]; rfl
theorem fn_no' (h2 : fnB ws p st near = false) : Value.tuple #[vv z3, .int .i64 0, .bool false] = .tuple #[vv (fnV ws p st near), .int .i64 (fnN ws p st near : Int), .bool (fnB ws p st near)] := by
  unfold fnV fnN; rw [h2]; rfl
theorem fn_no (hI : ∀ j, j < 6 → fineOk ws p st near j = false) : Value.tuple #[vv z3, .int .i64 0, .bool false] = .tuple #[vv (fnV ws p st near), .int .i64 (fnN ws p st near : Int), .bool (fnB ws p st near)] := by
  have h1 : fnI ws p st near = -1 := idxI_no hI
  exact fn_no' (by unfold fnB; rw [h1]; rfl)
theorem idxI_lt (q : Nat → Bool) : ∀ n : Nat, idxI q n < (n : Int)
  | 0 => by show (-1 : Int) < 0; decide
  | n + 1 => by
    have ih := idxI_lt q n
    rw [idxI]
    split
    · omega
    · split <;> omega
theorem fnN_le : fnN ws p st near ≤ 64 := by
  unfold fnN; split
  · have h : fnI ws p st near < ((6 : Nat) : Int) := idxI_lt _ _
    exact (pw_facts (i := (fnI ws p st near).toNat) (by omega)).2.2.2
  · exact Nat.zero_le _
end
def fineArgs (ws : List Wr) (p : V3) (st near : Nat) : Bool := wiresOk ws && fin3 p && fin st && least near
def fsB (ws : List Wr) (p : V3) (st near : Nat) : Bool := fineArgs ws p st near && fnB ws p st near
def fsN (ws : List Wr) (p : V3) (st near : Nat) : Nat := if fineArgs ws p st near then fnN ws p st near else 0
def fsV (ws : List Wr) (p : V3) (st near : Nat) : V3 := if fineArgs ws p st near then fnV ws p st near else z3
section
variable {ws : List Wr} {p : V3} {st near i : Nat}
theorem fa_1 (h : wiresOk ws = false) : fineArgs ws p st near = false := by unfold fineArgs; rw [h]; rfl
theorem fa_2 (h : fin3 p = false) : fineArgs ws p st near = false := by unfold fineArgs; rw [h, Bool.and_false]; rfl
theorem fa_3 (h : fin st = false) : fineArgs ws p st near = false := by unfold fineArgs; rw [h, Bool.and_false]; rfl
theorem fa_4 (h : least near = false) : fineArgs ws p st near = false := by unfold fineArgs; rw [h, Bool.and_false]
theorem fa_5 (h : fin near = false) : fineArgs ws p st near = false := fa_4 (by unfold least; rw [h]; rfl)
theorem fa_yes (h1 : wiresOk ws = true) (h2 : fin3 p = true) (h3 : fin st = true) (h4 : least near = true) : fineArgs ws p st near = true := by unfold fineArgs; rw [h1, h2, h3, h4]; rfl
theorem fa_last (h1 : wiresOk ws = true) (h2 : fin3 p = true) (h3 : fin st = true) (h4 : fin near = true) : fcmp .geq .f32 near 0 = fineArgs ws p st near := by unfold fineArgs least; rw [h1, h2, h3, h4]; rfl
theorem fa_is (h : fineArgs ws p st near = true) : wiresOk ws = true ∧ fin3 p = true := by
  unfold fineArgs at h
  simp only [Bool.and_eq_true] at h
  exact ⟨h.1.1.1, h.1.1.2⟩
theorem fs_no (h : fineArgs ws p st near = false) : Value.tuple #[vv z3, .int .i64 0, .bool false] = .tuple #[vv (fsV ws p st near), .int .i64 (fsN ws p st near : Int), .bool (fsB ws p st near)] := by
  unfold fsV fsN fsB; rw [h]; rfl
theorem fs_yes (h : fineArgs ws p st near = true) : Value.tuple #[vv (fnV ws p st near), .int .i64 (fnN ws p st near : Int), .bool (fnB ws p st near)] = .tuple #[vv (fsV ws p st near), .int .i64 (fsN ws p st near : Int), .bool (fsB ws p st near)] := by
  unfold fsV fsN fsB; rw [h]; rfl
end
end Go.Proofs.Ytfkblhlkeglilaa

namespace Go.Proofs.Ytfkblhlkeglilaa
open Go.RowKit
/-- A list of headers of wires of which the points alone are told. -/
def WH (f : Nat → Option Addr × Nat) (ws : List Wr) (us : List Value) : Prop := us.length = ws.length * 3 ∧ us.all scal = true ∧ ∀ i, i < ws.length → us[i * 3]? = some (.slice (f i).1 (ws.getD i zw).1.length (f i).2)
theorem WH.first (f : Nat → Option Addr × Nat) (ws : List Wr) : WH f ws (whd f ws) := ⟨whd_length f ws, whd_scal f ws, fun _ h => whd_get0 h⟩
def lnL (ws : List Wr) (p : V3) (st k : Nat) : List V3 := (List.range (k + 1)).map fun i => (stK ws p st i).1
def lnM (ws : List Wr) (p : V3) (st n : Nat) : Nat := if 0 ≤ idxI (fun i => !(stK ws p st (i + 1)).2) n then (idxI (fun i => !(stK ws p st (i + 1)).2) n).toNat else n
section
variable {ws : List Wr} {p : V3} {st k n : Nat}
theorem lnL_length : (lnL ws p st k).length = k + 1 := by simp [lnL]
theorem lnL_zero : lnL ws p st 0 = [p] := by simp [lnL, stK]
theorem lnL_snoc : vl (lnL ws p st k) ++ vl [(stK ws p st (k + 1)).1] = vl (lnL ws p st (k + 1)) := by
  rw [vl_append]; unfold lnL; rw [List.range_succ (n := k + 1)]; simp
theorem lnL_get {i : Nat} (h : i < k + 1) : (lnL ws p st k).getD i z3 = (stK ws p st i).1 := by simp [lnL, List.getD, h]
theorem lnM_all (h : ∀ j, j < n → (stK ws p st (j + 1)).2 = true) : lnM ws p st n = n := by
  unfold lnM
  rw [idxI_no (fun j hj => by rw [h j hj]; rfl)]
  rfl
theorem lnM_at (h : ∀ j, j < k → (stK ws p st (j + 1)).2 = true) (hk : k < n) (h2 : (stK ws p st (k + 1)).2 = false) : lnM ws p st n = k := by
  unfold lnM
  rw [idxI_of (k := k) (fun j hj => by rw [h j hj]; rfl) (by rw [h2]; rfl) hk]
  simp
end
def lnR (ws : List Wr) (p : V3) (st n : Nat) : List V3 := lnL ws p st (lnM ws p st n)
theorem lnR_all {ws : List Wr} {p : V3} {st n : Nat} (h : ∀ j, j < n → (stK ws p st (j + 1)).2 = true) : lnR ws p st n = lnL ws p st n := by unfold lnR; rw [lnM_all h]
theorem lnR_at {ws : List Wr} {p : V3} {st n k : Nat} (h : ∀ j, j < k → (stK ws p st (j + 1)).2 = true) (hk : k < n) (h2 : (stK ws p st (k + 1)).2 = false) : lnR ws p st n = lnL ws p st k := by unfold lnR; rw [lnM_at h hk h2]
def flineOk (ws : List Wr) (p : V3) (st : Nat) (rn : Int) : Bool := wiresOk ws && fin3 p && fin st && decide (0 ≤ rn ∧ rn ≤ 63)
def flineV (ws : List Wr) (p : V3) (st : Nat) (rn : Int) : List V3 := if flineOk ws p st rn then lnR ws p st rn.toNat else []
section
variable {ws : List Wr} {p : V3} {st : Nat} {rn : Int}
theorem fline_1 (h : wiresOk ws = false) : flineOk ws p st rn = false := by unfold flineOk; rw [h]; rfl
theorem fline_2 (h : fin3 p = false) : flineOk ws p st rn = false := by unfold flineOk; rw [h, Bool.and_false]; rfl
theorem fline_3 (h : fin st = false) : flineOk ws p st rn = false := by unfold flineOk; rw [h, Bool.and_false]; rfl
theorem fline_4 (h : decide (0 ≤ rn ∧ rn ≤ 63) = false) : flineOk ws p st rn = false := by unfold flineOk; rw [h, Bool.and_false]
theorem fline_yes (h1 : wiresOk ws = true) (h2 : fin3 p = true) (h3 : fin st = true) (h4 : decide (0 ≤ rn ∧ rn ≤ 63) = true) : flineOk ws p st rn = true := by unfold flineOk; rw [h1, h2, h3, h4]; rfl
theorem flineV_yes (h : flineOk ws p st rn = true) : flineV ws p st rn = lnR ws p st rn.toNat := by unfold flineV; rw [h]; rfl
theorem flineV_no (h : flineOk ws p st rn = false) : flineV ws p st rn = [] := by unfold flineV; rw [h]; rfl
end
end Go.Proofs.Ytfkblhlkeglilaa

namespace Go.Proofs.Ytfkblhlkeglilaa
open Go.RowKit
set_option linter.unusedVariables false
set_option linter.unusedSimpArgs false
set_option maxRecDepth 20000
theorem known35_MarkW : Known Try.prog 35 := Known.mk' Try.func35 (by kernel_rfl)
attribute [local irreducible] fop fcmp fconv sqrt32 fneg segF fieldS fieldI List.getD unit3 dirV dirI midI stepV stepOk dirOk stK
theorem c_isLC {w : World} {n : Int} : Pure Try.prog 25 [.int .i64 n] w (.bool (decide (0 ≤ n ∧ n ≤ 63))) := by
  refine Pure.enter Try.func25 rfl Try.ntmps25 (Nat.le_of_ble_eq_true rfl) ?_
  refine V.seq ?_
  refine V.region ?_
  refine VL.r (.inl rfl) rfl (by decide) (yr_assign (u := .bool false) rfl rfl) ?_
  refine VL.nil ?_
  refine VE.then_wp ?_
  refine V.seq ?_
  refine V.region ?_
  refine VL.r (.inl rfl) rfl (by decide) (yr_move rfl rfl) ?_
  refine VL.q (.inl rfl) rfl (by decide) (yq_callf rfl known35_MarkW (.cons rfl (.cons rfl (.cons rfl .nil))) (fun w hw => c_within)) ?_
  refine VL.r (.inl rfl) rfl (by decide) (yr_assign rfl rfl) ?_
  refine VL.nil ?_
  refine VE.then_wp ?_
  refine V.ret ?_
  refine ret1 rfl rfl (fun w1 hw => ?_)
  exact ⟨rfl, hw.below⟩
end Go.Proofs.Ytfkblhlkeglilaa

namespace Go.Proofs.Ytfkblhlkeglilaa
open Go.RowKit
set_option linter.unusedVariables false
set_option linter.unusedSimpArgs false
set_option maxRecDepth 20000
theorem zero32_Fine : (Try.prog.info? 32).bind (·.zero) = some (Value.agg #[Value.float .f32 0, Value.float .f32 0, Value.float .f32 0]) := by kernel_rfl
theorem sz32_Fine : (Try.prog.info? 32).map (·.size) = some 3 := by kernel_rfl
theorem known28_Fine : Known Try.prog 28 := Known.mk' Try.func28 (by kernel_rfl)
theorem lay32_Fine : Lay Try.prog 32 [Value.float .f32 0, Value.float .f32 0, Value.float .f32 0] [(0, 1), (1, 1), (2, 1)] := Lay.mk' (by kernel_rfl) (by kernel_rfl)
theorem known48_Fine : Known Try.prog 48 := Known.mk' Try.func48 (by kernel_rfl)
theorem known33_Fine : Known Try.prog 33 := Known.mk' Try.func33 (by kernel_rfl)
theorem known32_Fine : Known Try.prog 32 := Known.mk' Try.func32 (by kernel_rfl)
theorem known23_Fine : Known Try.prog 23 := Known.mk' Try.func23 (by kernel_rfl)
theorem known24_Fine : Known Try.prog 24 := Known.mk' Try.func24 (by kernel_rfl)
theorem known20_Fine : Known Try.prog 20 := Known.mk' Try.func20 (by kernel_rfl)
theorem known29_Fine : Known Try.prog 29 := Known.mk' Try.func29 (by kernel_rfl)
theorem mixed_Fine : Try.prog.follows .mixedOrders = true := by kernel_rfl
theorem known26_Fine : Known Try.prog 26 := Known.mk' Try.func26 (by kernel_rfl)
theorem known42_Fine : Known Try.prog 42 := Known.mk' Try.func42 (by kernel_rfl)
theorem known30_Fine : Known Try.prog 30 := Known.mk' Try.func30 (by kernel_rfl)
attribute [local irreducible] fop fcmp fconv sqrt32 fneg segF fieldS fieldI List.getD unit3 dirV dirI midI stepV stepOk dirOk stK stN pw fineOk fnV fnN fnB
theorem c_steps {w : World} {g : FuncId} {cs : Array Value} {ws : List Wr} {p1 p2 p3 : Nat} {st n : Nat} (hg : Known Try.prog g) (hF : ∀ w', Below w.heap.size w w' → ∀ q : V3, Pure Try.prog g ([vv q] ++ cs.toList.map cn) w' (.tuple #[vv (fieldI ws q), .bool (fin3 q && fin3 (fieldI ws q))])) (hp : fin3 (p1, p2, p3) = true) (hnn : n ≤ 64) : Pure Try.prog 48 [.func (.func g) #[] cs, vv (p1, p2, p3), .float .f32 st, .int .i64 (n : Int)] w (.tuple #[vv (stN ws (p1, p2, p3) st n).1, .bool (stN ws (p1, p2, p3) st n).2]) := by
  refine Pure.enter Try.func48 rfl Try.ntmps48 (Nat.le_of_ble_eq_true rfl) ?_
  refine V.seq ?_
  refine V.region ?_
  refine VL.new1 (.inl rfl) rfl (by decide) (yn_box rfl rfl (.inr ⟨rfl, rfl⟩)) ?_
  intro b5
  refine VL.new1 (.inl rfl) rfl (by decide) (yn_alloc rfl zero32_Fine rfl) ?_
  intro b8
  refine VL.r (.inl rfl) rfl (by decide) (yr_assign (u := .bool false) rfl rfl) ?_
  refine VL.nil ?_
  refine VE.then_wp ?_
  refine V.seq ?_
  refine V.seq ?_
  refine V.region ?_
  refine VL.r (.inl rfl) rfl (by decide) (yr_move rfl rfl) ?_
  refine VL.r (.inl rfl) rfl (by decide) (yr_move (u := .int .i64 0) rfl rfl) ?_
  refine VL.nil ?_
  refine VE.then_wp ?_
  refine V.block ?_
  refine V.loopc (G := Nat) [(0, _), (2, _), (3, _), (5, _), (8, _), (12, _)] (fun (k : Nat) => k ≤ n ∧ (stK ws (p1, p2, p3) (hN st n) k).2 = true ∧ fin3 (stK ws (p1, p2, p3) (hN st n) k).1 = true) (fun (k : Nat) => [⟨some ⟨b8, 0, none⟩, [.float .f32 (z3).1, .float .f32 (z3).2.1, .float .f32 (z3).2.2], 3, 32⟩, ⟨some ⟨b5, 0, none⟩, [.float .f32 ((stK ws (p1, p2, p3) (hN st n) k).1).1, .float .f32 ((stK ws (p1, p2, p3) (hN st n) k).1).2.1, .float .f32 ((stK ws (p1, p2, p3) (hN st n) k).1).2.2], 3, 32⟩]) (fun (k : Nat) => [(13, .int .i64 (k : Int))]) (fun (k : Nat) => n - k) 0 (.cons rfl (.cons rfl (.cons rfl (.cons rfl (.cons rfl (.cons rfl .nil)))))) (.cons rfl .nil) ?_ ?_ ?_
  · exact (fun w hw => by rw [stK_zero]; exact hw)
  · exact (by rw [stK_zero]; exact ⟨by omega, rfl, hp⟩)
  rintro k ⟨hk, hk2, hk3⟩
  show V _ _ _ [⟨some ⟨b8, 0, none⟩, [.float .f32 (z3).1, .float .f32 (z3).2.1, .float .f32 (z3).2.2], 3, 32⟩, ⟨some ⟨b5, 0, none⟩, [.float .f32 ((stK ws (p1, p2, p3) (hN st n) k).1).1, .float .f32 ((stK ws (p1, p2, p3) (hN st n) k).1).2.1, .float .f32 ((stK ws (p1, p2, p3) (hN st n) k).1).2.2], 3, 32⟩] ([(13, .int .i64 (k : Int))] ++ [(0, _), (2, _), (3, _), (5, _), (8, _), (12, _)]) _ _
  refine V.seq ?_
  refine V.region ?_
  refine VL.r (.inl rfl) rfl (by decide) (yr_icmp rfl (.inr (.inr (.inl rfl))) rfl rfl) ?_
  refine VL.nil ?_
  refine VE.then_wp ?_
  refine V.seq ?_
  refine V.cond rfl (fun h1 => ?_) (fun h1 => ?_)
  · skip
    replace h1 := ic_lss h1
    refine V.skip ?_
    refine VE.then_wp ?_
    refine V.seq ?_
    refine V.block ?_
    refine V.seq ?_
    refine V.region ?_
    refine VL.r (.inl rfl) rfl (by decide) (yr_move rfl rfl) ?_
    refine VL.q (.inl rfl) rfl (by decide) (yq_loadS rfl Try.underlying32 sz32_Fine rfl zz0 rfl rfl rfl) ?_
    refine VL.r (.inl rfl) rfl (by decide) (yr_move rfl rfl) ?_
    refine VL.r (.inl rfl) rfl (by decide) (yr_move rfl rfl) ?_
    refine VL.r (.inl rfl) rfl (by decide) (yr_ofInt rfl Try.underlying2 Try.underlying25 rfl) ?_
    refine VL.r (.inl rfl) rfl (by decide) (yr_float rfl (.inr (.inr (.inr rfl))) rfl rfl) ?_
    refine VL.q (.inl rfl) rfl (by decide) (yq_callf rfl known28_Fine (.cons rfl (.cons rfl (.cons rfl .nil))) (fun w hw => (c_step (p1 := (stK ws (p1, p2, p3) (hN st n) k).1.1) (p2 := (stK ws (p1, p2, p3) (hN st n) k).1.2.1) (p3 := (stK ws (p1, p2, p3) (hN st n) k).1.2.2) (st := (hN st n)) hg (fun w1 hb => hF w1 (hw.below.trans (hb.mono hw.below.size)))))) ?_
    refine VL.r (.inl rfl) rfl (by decide) (yr_move rfl rfl) ?_
    refine VL.r (.inl rfl) rfl (by decide) (yr_extract rfl rfl rfl (by nofun)) ?_
    refine VL.r (.inl rfl) rfl (by decide) (yr_extract rfl rfl rfl (by nofun)) ?_
    refine VL.new1 (.inl rfl) rfl (by decide) (yn_alloc rfl zero32_Fine rfl) ?_
    intro b10
    refine VL.s (.inl rfl) rfl (yc_store rfl sz32_Fine rfl rfl zz3 (.inr ⟨rfl, rfl⟩) rfl zz4 (by decide) rfl) ?_
    rintro ⟨⟩
    refine VL.r (.inl rfl) rfl (by decide) (yr_assign rfl rfl) ?_
    refine VL.nil ?_
    refine VE.then_wp ?_
    refine V.seq ?_
    refine V.seq ?_
    refine V.region ?_
    refine VL.r (.inl rfl) rfl (by decide) (yr_move rfl rfl) ?_
    refine VL.r (.inl rfl) rfl (by decide) (yr_not rfl rfl) ?_
    refine VL.nil ?_
    refine VE.then_wp ?_
    refine V.cond rfl (fun h2 => ?_) (fun h2 => ?_)
    · skip
      replace h2 := bnot_t h2
      refine V.seq ?_
      refine V.region ?_
      refine VL.r (.inl rfl) rfl (by decide) (yr_build rfl lay32_Fine rfl .nil zz7 rfl) ?_
      refine VL.s (.inl rfl) rfl (yc_store rfl sz32_Fine rfl rfl zz3 (.inr ⟨rfl, rfl⟩) rfl zz4 (by decide) rfl) ?_
      rintro ⟨⟩
      refine VL.r (.inl rfl) rfl (by decide) (yr_assign (u := .bool false) rfl rfl) ?_
      refine VL.nil ?_
      refine VE.then_wp ?_
      refine V.ret ?_
      refine VE.then_ret ?_
      refine VE.block_ret ?_
      refine VE.then_ret ?_
      refine VE.then_ret ?_
      refine VE.block_ret ?_
      refine VE.then_ret ?_
      refine retN rfl (.cons (rv_cellS rfl Try.underlying32 sz32_Fine zz0 rfl rfl rfl) (.cons (rv_tmp rfl (by nofun)) .nil)) (by nofun) (fun w1 hw => ?_)
      first
        | exact ⟨stN_bad (k := k) hk2 (by assumption) (by omega), hw.below⟩
        | (obtain rfl : k = n := by omega
           exact ⟨stN_yes hk2, hw.below⟩)
    replace h2 := bnot_f h2
    refine V.skip ?_
    refine VE.then_wp ?_
    refine V.region ?_
    refine VL.q (.inl rfl) rfl (by decide) (yq_loadS rfl Try.underlying32 sz32_Fine rfl zz0 rfl rfl rfl) ?_
    refine VL.s (.inl rfl) rfl (yc_store rfl sz32_Fine rfl rfl zz3 (.inr ⟨rfl, rfl⟩) rfl zz4 (by decide) rfl) ?_
    rintro ⟨⟩
    refine VL.nil ?_
    refine VE.block_normal ?_
    refine VE.then_wp ?_
    refine V.region ?_
    refine VL.r (.inl rfl) rfl (by decide) (yr_int rfl rfl rfl (.inl ⟨rfl, wrap_in (by omega)⟩)) ?_
    refine VL.r (.inl rfl) rfl (by decide) (yr_move rfl rfl) ?_
    refine VL.nil ?_
    refine VE.round (k + 1) ?_ ?_ ?_ ?_ ?_
    · exact (.cons rfl .nil)
    · exact (.cons rfl (.cons rfl (.cons rfl (.cons rfl (.cons rfl (.cons rfl .nil))))))
    · exact (fun w hw => by have h9 := hw.sub (List.sublist_cons_self _ _); have e9 := stK_box (ws := ws) (p := (p1, p2, p3)) (h := (hN st n)) (k := k) hk2; first | (rw [← e9]; exact h9))
    · exact ⟨by omega, stK_ok hk2 (by assumption)⟩
    · (try dsimp only); omega
  replace h1 := ic_lss' h1
  refine V.exit ?_
  refine VE.then_exit ?_
  refine VE.then_exit ?_
  refine VE.block_here ?_
  refine VE.then_wp ?_
  refine V.seq ?_
  refine V.region ?_
  refine VL.q (.inl rfl) rfl (by decide) (yq_loadS rfl Try.underlying32 sz32_Fine rfl zz0 rfl rfl rfl) ?_
  refine VL.s (.inl rfl) rfl (yc_store rfl sz32_Fine rfl rfl zz3 (.inr ⟨rfl, rfl⟩) rfl zz4 (by decide) rfl) ?_
  rintro ⟨⟩
  refine VL.r (.inl rfl) rfl (by decide) (yr_assign (u := .bool true) rfl rfl) ?_
  refine VL.nil ?_
  refine VE.then_wp ?_
  refine V.ret ?_
  refine retN rfl (.cons (rv_cellS rfl Try.underlying32 sz32_Fine zz0 rfl rfl rfl) (.cons (rv_tmp rfl (by nofun)) .nil)) (by nofun) (fun w1 hw => ?_)
  first
    | exact ⟨stN_bad (k := k) hk2 (by assumption) (by omega), hw.below⟩
    | (obtain rfl : k = n := by omega
       exact ⟨stN_yes hk2, hw.below⟩)
theorem c_fine {w : World} {g : FuncId} {cs : Array Value} {ws : List Wr} {p1 p2 p3 : Nat} {st near : Nat} (hg : Known Try.prog g) (hF : ∀ w', Below w.heap.size w w' → ∀ q : V3, Pure Try.prog g ([vv q] ++ cs.toList.map cn) w' (.tuple #[vv (fieldI ws q), .bool (fin3 q && fin3 (fieldI ws q))])) (hp : fin3 (p1, p2, p3) = true) : Pure Try.prog 30 [.func (.func g) #[] cs, vv (p1, p2, p3), .float .f32 st, .float .f32 near] w (.tuple #[vv (fnV ws (p1, p2, p3) st near), .int .i64 (fnN ws (p1, p2, p3) st near : Int), .bool (fnB ws (p1, p2, p3) st near)]) := by
  refine Pure.enter Try.func30 rfl Try.ntmps30 (Nat.le_of_ble_eq_true rfl) ?_
  refine V.seq ?_
  refine V.region ?_
  refine VL.new1 (.inl rfl) rfl (by decide) (yn_box rfl rfl (.inr ⟨rfl, rfl⟩)) ?_
  intro b5
  refine VL.new1 (.inl rfl) rfl (by decide) (yn_alloc rfl zero32_Fine rfl) ?_
  intro b8
  refine VL.r (.inl rfl) rfl (by decide) (yr_assign (u := .int .i64 0) rfl rfl) ?_
  refine VL.r (.inl rfl) rfl (by decide) (yr_assign (u := .bool false) rfl rfl) ?_
  refine VL.nil ?_
  refine VE.then_wp ?_
  refine V.seq ?_
  refine V.seq ?_
  refine V.region ?_
  refine VL.r (.inl rfl) rfl (by decide) (yr_assign (u := .int .i64 1) rfl rfl) ?_
  refine VL.nil ?_
  refine VE.then_wp ?_
  refine V.block ?_
  refine V.loopc (G := Nat) [(0, _), (2, _), (3, _), (5, _), (8, _)] (fun (i : Nat) => i ≤ 6 ∧ ∀ j, j < i → fineOk ws (p1, p2, p3) st near j = false) (fun (i : Nat) => [⟨some ⟨b8, 0, none⟩, [.float .f32 (z3).1, .float .f32 (z3).2.1, .float .f32 (z3).2.2], 3, 32⟩, ⟨some ⟨b5, 0, none⟩, [.float .f32 ((p1, p2, p3)).1, .float .f32 ((p1, p2, p3)).2.1, .float .f32 ((p1, p2, p3)).2.2], 3, 32⟩]) (fun (i : Nat) => [(11, .int .i64 (pw i : Int))]) (fun (i : Nat) => 6 - i) 0 (.cons rfl (.cons rfl (.cons rfl (.cons rfl (.cons rfl .nil))))) (.cons (congrArg (fun i => some (Value.int .i64 i)) (by with_unfolding_all rfl)) .nil) ?_ ?_ ?_
  · exact (fun w hw => hw)
  · exact (by exact ⟨by omega, fun j h => by omega⟩)
  rintro i ⟨hi, hI⟩
  show V _ _ _ [⟨some ⟨b8, 0, none⟩, [.float .f32 (z3).1, .float .f32 (z3).2.1, .float .f32 (z3).2.2], 3, 32⟩, ⟨some ⟨b5, 0, none⟩, [.float .f32 ((p1, p2, p3)).1, .float .f32 ((p1, p2, p3)).2.1, .float .f32 ((p1, p2, p3)).2.2], 3, 32⟩] ([(11, .int .i64 (pw i : Int))] ++ [(0, _), (2, _), (3, _), (5, _), (8, _)]) _ _
  have hpw := pw_facts hi
  refine V.seq ?_
  refine V.seq ?_
  refine V.region ?_
  refine VL.r (.inl rfl) rfl (by decide) (yr_move rfl rfl) ?_
  refine VL.r (.inl rfl) rfl (by decide) (yr_icmp rfl (.inr (.inr (.inl rfl))) rfl rfl) ?_
  refine VL.nil ?_
  refine VE.then_wp ?_
  refine V.cond rfl (fun h1 => ?_) (fun h1 => ?_)
  · skip
    replace h1 := ic_lss h1
    refine V.skip ?_
    refine VE.then_wp ?_
    refine V.seq ?_
    refine V.block ?_
    refine V.seq ?_
    refine V.region ?_
    refine VL.r (.inl rfl) rfl (by decide) (yr_move rfl rfl) ?_
    refine VL.q (.inl rfl) rfl (by decide) (yq_loadS rfl Try.underlying32 sz32_Fine rfl zz0 rfl rfl rfl) ?_
    refine VL.r (.inl rfl) rfl (by decide) (yr_move rfl rfl) ?_
    refine VL.r (.inl rfl) rfl (by decide) (yr_move rfl rfl) ?_
    refine VL.q (.inl rfl) rfl (by decide) (yq_callf rfl known48_Fine (.cons rfl (.cons rfl (.cons rfl (.cons rfl .nil)))) (fun w hw => (c_steps (p1 := p1) (p2 := p2) (p3 := p3) (n := pw i) hg (fun w1 hb => hF w1 (hw.below.trans (hb.mono hw.below.size))) hp (by omega)))) ?_
    refine VL.r (.inl rfl) rfl (by decide) (yr_move rfl rfl) ?_
    refine VL.r (.inl rfl) rfl (by decide) (yr_extract rfl rfl rfl (by nofun)) ?_
    refine VL.r (.inl rfl) rfl (by decide) (yr_extract rfl rfl rfl (by nofun)) ?_
    refine VL.new1 (.inl rfl) rfl (by decide) (yn_alloc rfl zero32_Fine rfl) ?_
    intro b12
    refine VL.s (.inl rfl) rfl (yc_store rfl sz32_Fine rfl rfl zz3 (.inr ⟨rfl, rfl⟩) rfl zz4 (by decide) rfl) ?_
    rintro ⟨⟩
    refine VL.r (.inl rfl) rfl (by decide) (yr_assign rfl rfl) ?_
    refine VL.nil ?_
    refine VE.then_wp ?_
    refine V.seq ?_
    refine V.region ?_
    refine VL.r (.inl rfl) rfl (by decide) (yr_move rfl rfl) ?_
    refine VL.q (.inl rfl) rfl (by decide) (yq_loadS rfl Try.underlying32 sz32_Fine rfl zz0 rfl rfl rfl) ?_
    refine VL.r (.inl rfl) rfl (by decide) (yr_move rfl rfl) ?_
    refine VL.r (.inl rfl) rfl (by decide) (yr_move rfl rfl) ?_
    refine VL.r (.inl rfl) rfl (by decide) (yr_mulN 2 (pw i) rfl rfl rfl (by omega) (by omega) (Nat.le_trans (mul_small (by omega) (by omega)) (by decide))) ?_
    refine VL.q (.inl rfl) rfl (by decide) (yq_callf rfl known48_Fine (.cons rfl (.cons rfl (.cons rfl (.cons rfl .nil)))) (fun w hw => (c_steps (p1 := p1) (p2 := p2) (p3 := p3) (n := 2 * pw i) hg (fun w1 hb => hF w1 (hw.below.trans (hb.mono hw.below.size))) hp (by omega)))) ?_
    refine VL.r (.inl rfl) rfl (by decide) (yr_move rfl rfl) ?_
    refine VL.r (.inl rfl) rfl (by decide) (yr_extract rfl rfl rfl (by nofun)) ?_
    refine VL.r (.inl rfl) rfl (by decide) (yr_extract rfl rfl rfl (by nofun)) ?_
    refine VL.new1 (.inl rfl) rfl (by decide) (yn_alloc rfl zero32_Fine rfl) ?_
    intro b14
    refine VL.s (.inl rfl) rfl (yc_store rfl sz32_Fine rfl rfl zz3 (.inr ⟨rfl, rfl⟩) rfl zz4 (by decide) rfl) ?_
    rintro ⟨⟩
    refine VL.r (.inl rfl) rfl (by decide) (yr_assign rfl rfl) ?_
    refine VL.nil ?_
    refine VE.then_wp ?_
    refine V.seq ?_
    refine V.region ?_
    refine VL.r (.inl rfl) rfl (by decide) (yr_move rfl rfl) ?_
    refine VL.r (.inl rfl) rfl (by decide) (yr_move rfl rfl) ?_
    refine VX.split 38 _ rfl (fun h2 => ?_) (fun h2 => ?_)
    · skip
      refine VL.r (.inr ⟨_, _, _, rfl, rfl, rfl⟩) rfl (by decide) (yr_move rfl rfl) ?_
      refine VL.r (.inl rfl) rfl (by decide) (yr_pick_t rfl rfl rfl) ?_
      refine VL.r (.inl rfl) rfl (by decide) (yr_move rfl rfl) ?_
      refine VX.split 41 _ rfl (fun h3 => ?_) (fun h3 => ?_)
      · skip
        refine VL.q (.inr ⟨_, _, _, rfl, rfl, rfl⟩) rfl (by decide) (yq_loadS rfl Try.underlying32 sz32_Fine rfl zz0 rfl rfl rfl) ?_
        refine VL.q (.inr ⟨_, _, _, rfl, rfl, rfl⟩) rfl (by decide) (yq_loadS rfl Try.underlying32 sz32_Fine rfl zz0 rfl rfl rfl) ?_
        refine VL.q (.inr ⟨_, _, _, rfl, rfl, rfl⟩) rfl (by decide) (yq_callf rfl known33_Fine (.cons rfl (.cons rfl .nil)) (fun w hw => c_sub3)) ?_
        refine VL.q (.inr ⟨_, _, _, rfl, rfl, rfl⟩) rfl (by decide) (yq_callf rfl known32_Fine (.cons rfl .nil) (fun w hw => c_long3)) ?_
        refine VL.r (.inr ⟨_, _, _, rfl, rfl, rfl⟩) rfl (by decide) (yr_move rfl rfl) ?_
        refine VL.r (.inr ⟨_, _, _, rfl, rfl, rfl⟩) rfl (by decide) (yr_fcmp rfl (.inr (.inr (.inr (.inl rfl)))) rfl rfl) ?_
        refine VL.r (.inl rfl) rfl (by decide) (yr_pick_t rfl rfl rfl) ?_
        refine VL.nil ?_
        refine VE.then_wp ?_
        refine V.cond rfl (fun h4 => ?_) (fun h4 => ?_)
        · skip
          refine V.seq ?_
          refine V.region ?_
          refine VL.q (.inl rfl) rfl (by decide) (yq_loadS rfl Try.underlying32 sz32_Fine rfl zz0 rfl rfl rfl) ?_
          refine VL.r (.inl rfl) rfl (by decide) (yr_move rfl rfl) ?_
          refine VL.s (.inl rfl) rfl (yc_store rfl sz32_Fine rfl rfl zz3 (.inr ⟨rfl, rfl⟩) rfl zz4 (by decide) rfl) ?_
          rintro ⟨⟩
          refine VL.r (.inl rfl) rfl (by decide) (yr_assign rfl rfl) ?_
          refine VL.r (.inl rfl) rfl (by decide) (yr_assign (u := .bool true) rfl rfl) ?_
          refine VL.nil ?_
          refine VE.then_wp ?_
          refine V.ret ?_
          refine VE.block_ret ?_
          refine VE.then_ret ?_
          refine VE.then_ret ?_
          refine VE.block_ret ?_
          refine VE.then_ret ?_
          refine retN rfl (.cons (rv_cellS rfl Try.underlying32 sz32_Fine zz0 rfl rfl rfl) (.cons (rv_tmp rfl (by nofun)) (.cons (rv_tmp rfl (by nofun)) .nil))) (by nofun) (fun w1 hw => ?_)
          first
            | exact ⟨fn_yes (i := i) hI (by omega) (fo_yes (by assumption) (by assumption) (by assumption)), hw.below⟩
            | (obtain rfl : i = 6 := by omega
               exact ⟨fn_no hI, hw.below⟩)
        refine V.skip ?_
        refine VE.block_normal ?_
        refine VE.then_wp ?_
        refine V.region ?_
        refine VL.r (.inl rfl) rfl (by decide) (yr_move rfl rfl) ?_
        refine VL.r (.inl rfl) rfl (by decide) (yr_mulN (pw i) 2 rfl rfl rfl (by omega) (by omega) (Nat.le_trans (mul_small (by omega) (by omega)) (by decide))) ?_
        refine VL.r (.inl rfl) rfl (by decide) (yr_assign rfl rfl) ?_
        refine VL.nil ?_
        refine VE.round (i + 1) ?_ ?_ ?_ ?_ ?_
        · exact (.cons (congrArg (fun i => some (Value.int .i64 i)) (by rw [pw_succ]; omega)) .nil)
        · exact (.cons rfl (.cons rfl (.cons rfl (.cons rfl (.cons rfl .nil)))))
        · exact (fun w hw => hw.sub ((List.sublist_cons_self _ _).trans (List.sublist_cons_self _ _)))
        · exact ⟨by omega, fo_step hI (by first | exact fo_1 (by assumption) | exact fo_2 (by assumption) | exact fo_3 (by assumption))⟩
        · (try dsimp only); omega
      refine VL.no rfl rfl rfl rfl rfl (by decide) ?_
      refine VL.no rfl rfl rfl rfl rfl (by decide) ?_
      refine VL.no rfl rfl rfl rfl rfl (by decide) ?_
      refine VL.no rfl rfl rfl rfl rfl (by decide) ?_
      refine VL.no rfl rfl rfl rfl rfl (by decide) ?_
      refine VL.no rfl rfl rfl rfl rfl (by decide) ?_
      refine VL.r (.inl rfl) rfl (by decide) (yr_pick_f (u := .bool false) rfl rfl rfl) ?_
      refine VL.nil ?_
      refine VE.then_wp ?_
      refine V.condF rfl ?_
      refine V.skip ?_
      refine VE.block_normal ?_
      refine VE.then_wp ?_
      refine V.region ?_
      refine VL.r (.inl rfl) rfl (by decide) (yr_move rfl rfl) ?_
      refine VL.r (.inl rfl) rfl (by decide) (yr_mulN (pw i) 2 rfl rfl rfl (by omega) (by omega) (Nat.le_trans (mul_small (by omega) (by omega)) (by decide))) ?_
      refine VL.r (.inl rfl) rfl (by decide) (yr_assign rfl rfl) ?_
      refine VL.nil ?_
      refine VE.round (i + 1) ?_ ?_ ?_ ?_ ?_
      · exact (.cons (congrArg (fun i => some (Value.int .i64 i)) (by rw [pw_succ]; omega)) .nil)
      · exact (.cons rfl (.cons rfl (.cons rfl (.cons rfl (.cons rfl .nil)))))
      · exact (fun w hw => hw.sub ((List.sublist_cons_self _ _).trans (List.sublist_cons_self _ _)))
      · exact ⟨by omega, fo_step hI (by first | exact fo_1 (by assumption) | exact fo_2 (by assumption) | exact fo_3 (by assumption))⟩
      · (try dsimp only); omega
    refine VL.no rfl rfl rfl rfl rfl (by decide) ?_
    refine VL.r (.inl rfl) rfl (by decide) (yr_pick_f (u := .bool false) rfl rfl rfl) ?_
    refine VL.r (.inl rfl) rfl (by decide) (yr_move rfl rfl) ?_
    refine VL.no rfl rfl rfl rfl rfl (by decide) ?_
    refine VL.no rfl rfl rfl rfl rfl (by decide) ?_
    refine VL.no rfl rfl rfl rfl rfl (by decide) ?_
    refine VL.no rfl rfl rfl rfl rfl (by decide) ?_
    refine VL.no rfl rfl rfl rfl rfl (by decide) ?_
    refine VL.no rfl rfl rfl rfl rfl (by decide) ?_
    refine VL.r (.inl rfl) rfl (by decide) (yr_pick_f (u := .bool false) rfl rfl rfl) ?_
    refine VL.nil ?_
    refine VE.then_wp ?_
    refine V.condF rfl ?_
    refine V.skip ?_
    refine VE.block_normal ?_
    refine VE.then_wp ?_
    refine V.region ?_
    refine VL.r (.inl rfl) rfl (by decide) (yr_move rfl rfl) ?_
    refine VL.r (.inl rfl) rfl (by decide) (yr_mulN (pw i) 2 rfl rfl rfl (by omega) (by omega) (Nat.le_trans (mul_small (by omega) (by omega)) (by decide))) ?_
    refine VL.r (.inl rfl) rfl (by decide) (yr_assign rfl rfl) ?_
    refine VL.nil ?_
    refine VE.round (i + 1) ?_ ?_ ?_ ?_ ?_
    · exact (.cons (congrArg (fun i => some (Value.int .i64 i)) (by rw [pw_succ]; omega)) .nil)
    · exact (.cons rfl (.cons rfl (.cons rfl (.cons rfl (.cons rfl .nil)))))
    · exact (fun w hw => hw.sub ((List.sublist_cons_self _ _).trans (List.sublist_cons_self _ _)))
    · exact ⟨by omega, fo_step hI (by first | exact fo_1 (by assumption) | exact fo_2 (by assumption) | exact fo_3 (by assumption))⟩
    · (try dsimp only); omega
  replace h1 := ic_lss' h1
  refine V.exit ?_
  refine VE.then_exit ?_
  refine VE.then_exit ?_
  refine VE.block_here ?_
  refine VE.then_wp ?_
  refine V.seq ?_
  refine V.region ?_
  refine VL.r (.inl rfl) rfl (by decide) (yr_build rfl lay32_Fine rfl .nil zz7 rfl) ?_
  refine VL.s (.inl rfl) rfl (yc_store rfl sz32_Fine rfl rfl zz3 (.inr ⟨rfl, rfl⟩) rfl zz4 (by decide) rfl) ?_
  rintro ⟨⟩
  refine VL.r (.inl rfl) rfl (by decide) (yr_assign (u := .int .i64 0) rfl rfl) ?_
  refine VL.r (.inl rfl) rfl (by decide) (yr_assign (u := .bool false) rfl rfl) ?_
  refine VL.nil ?_
  refine VE.then_wp ?_
  refine V.ret ?_
  refine retN rfl (.cons (rv_cellS rfl Try.underlying32 sz32_Fine zz0 rfl rfl rfl) (.cons (rv_tmp rfl (by nofun)) (.cons (rv_tmp rfl (by nofun)) .nil))) (by nofun) (fun w1 hw => ?_)
  first
    | exact ⟨fn_yes (i := i) hI (by omega) (fo_yes (by assumption) (by assumption) (by assumption)), hw.below⟩
    | (obtain rfl : i = 6 := by omega
       exact ⟨fn_no hI, hw.below⟩)
theorem c_areFine {w : World} {a : Option Addr} {c : Nat} {f : Nat → Option Addr × Nat} {ws : List Wr} {p1 p2 p3 : Nat} {st near : Nat} (hA : Cl w a (whd f ws)) (hR : WRws w f ws) (hn : wbulk ws ≤ 1050000) : Pure Try.prog 29 [.slice a ws.length c, vv (p1, p2, p3), .float .f32 st, .float .f32 near] w (.bool (fineArgs ws (p1, p2, p3) st near)) := by
  refine Pure.enter Try.func29 rfl Try.ntmps29 (Nat.le_of_ble_eq_true rfl) ?_
  have hwl : ws.length ≤ wbulk ws := by unfold wbulk; omega
  have hrw : ∀ k, k < ws.length → (ws.getD k zw).1.length ≤ 1050000 := fun k hk => by have := wbulk_row hk; omega
  refine V.seq ?_
  refine V.region ?_
  refine VL.new1 (.inl rfl) rfl (by decide) (yn_box rfl rfl (.inr ⟨rfl, rfl⟩)) ?_
  intro b5
  refine VL.r (.inl rfl) rfl (by decide) (yr_assign (u := .bool false) rfl rfl) ?_
  refine VL.nil ?_
  refine VE.then_wp ?_
  refine V.seq ?_
  refine V.region ?_
  refine VL.r (.inl rfl) rfl (by decide) (yr_move rfl rfl) ?_
  refine VL.q (.inl rfl) rfl (by decide) (yq_callf rfl known23_Fine (.cons rfl .nil) (fun w hw => (c_implAre zz2 (by first | exact WRws.root (by assumption) hw | exact WRws.own (by repeat (first | exact WRowsIn.here | exact WRowsIn.last | apply WRowsIn.there | apply WRowsIn.thereS)) hw) (by omega)))) ?_
  refine VL.r (.inl rfl) rfl (by decide) (yr_move rfl rfl) ?_
  refine VX.split 11 _ rfl (fun h1 => ?_) (fun h1 => ?_)
  · skip
    refine VL.q (.inr ⟨_, _, _, rfl, rfl, rfl⟩) rfl (by decide) (yq_loadS rfl Try.underlying32 sz32_Fine rfl zz0 rfl rfl rfl) ?_
    refine VL.q (.inr ⟨_, _, _, rfl, rfl, rfl⟩) rfl (by decide) (yq_callf rfl known24_Fine (.cons rfl .nil) (fun w hw => c_fin3)) ?_
    refine VL.r (.inl rfl) rfl (by decide) (yr_pick_t rfl rfl rfl) ?_
    refine VL.r (.inl rfl) rfl (by decide) (yr_move rfl rfl) ?_
    refine VX.split 15 _ rfl (fun h2 => ?_) (fun h2 => ?_)
    · skip
      refine VL.r (.inr ⟨_, _, _, rfl, rfl, rfl⟩) rfl (by decide) (yr_move rfl rfl) ?_
      refine VL.q (.inr ⟨_, _, _, rfl, rfl, rfl⟩) rfl (by decide) (yq_callf rfl known20_Fine (.cons rfl .nil) (fun w hw => c_IsFinite _)) ?_
      refine VL.r (.inl rfl) rfl (by decide) (yr_pick_t rfl rfl rfl) ?_
      refine VL.r (.inl rfl) rfl (by decide) (yr_move rfl rfl) ?_
      refine VX.split 19 _ rfl (fun h3 => ?_) (fun h3 => ?_)
      · skip
        refine VL.r (.inr ⟨_, _, _, rfl, rfl, rfl⟩) rfl (by decide) (yr_move rfl rfl) ?_
        refine VL.q (.inr ⟨_, _, _, rfl, rfl, rfl⟩) rfl (by decide) (yq_callf rfl known20_Fine (.cons rfl .nil) (fun w hw => c_IsFinite _)) ?_
        refine VL.r (.inl rfl) rfl (by decide) (yr_pick_t rfl rfl rfl) ?_
        refine VL.r (.inl rfl) rfl (by decide) (yr_move rfl rfl) ?_
        refine VX.split 23 _ rfl (fun h4 => ?_) (fun h4 => ?_)
        · skip
          refine VL.r (.inr ⟨_, _, _, rfl, rfl, rfl⟩) rfl (by decide) (yr_move rfl rfl) ?_
          refine VL.r (.inr ⟨_, _, _, rfl, rfl, rfl⟩) rfl (by decide) (yr_fcmp (b := 0) rfl (.inr (.inr (.inr (.inr (.inr rfl))))) rfl rfl) ?_
          refine VL.r (.inl rfl) rfl (by decide) (yr_pick_t rfl rfl rfl) ?_
          refine VL.r (.inl rfl) rfl (by decide) (yr_assign rfl rfl) ?_
          refine VL.nil ?_
          refine VE.then_wp ?_
          refine V.ret ?_
          refine ret1 rfl rfl (fun w1 hw => ?_)
          first
            | exact ⟨congrArg Value.bool (fa_1 (ws := ws) (p := (p1, p2, p3)) (st := st) (near := near) (by assumption)).symm, hw.below⟩
            | exact ⟨congrArg Value.bool (fa_2 (ws := ws) (p := (p1, p2, p3)) (st := st) (near := near) (by assumption)).symm, hw.below⟩
            | exact ⟨congrArg Value.bool (fa_3 (ws := ws) (p := (p1, p2, p3)) (st := st) (near := near) (by assumption)).symm, hw.below⟩
            | exact ⟨congrArg Value.bool (fa_5 (ws := ws) (p := (p1, p2, p3)) (st := st) (near := near) (by assumption)).symm, hw.below⟩
            | exact ⟨congrArg Value.bool (fa_last (ws := ws) (p := (p1, p2, p3)) (st := st) (near := near) (by assumption) (by assumption) (by assumption) (by assumption)), hw.below⟩
        refine VL.no rfl rfl rfl rfl rfl (by decide) ?_
        refine VL.no rfl rfl rfl rfl rfl (by decide) ?_
        refine VL.r (.inl rfl) rfl (by decide) (yr_pick_f (u := .bool false) rfl rfl rfl) ?_
        refine VL.r (.inl rfl) rfl (by decide) (yr_assign rfl rfl) ?_
        refine VL.nil ?_
        refine VE.then_wp ?_
        refine V.ret ?_
        refine ret1 rfl rfl (fun w1 hw => ?_)
        first
          | exact ⟨congrArg Value.bool (fa_1 (ws := ws) (p := (p1, p2, p3)) (st := st) (near := near) (by assumption)).symm, hw.below⟩
          | exact ⟨congrArg Value.bool (fa_2 (ws := ws) (p := (p1, p2, p3)) (st := st) (near := near) (by assumption)).symm, hw.below⟩
          | exact ⟨congrArg Value.bool (fa_3 (ws := ws) (p := (p1, p2, p3)) (st := st) (near := near) (by assumption)).symm, hw.below⟩
          | exact ⟨congrArg Value.bool (fa_5 (ws := ws) (p := (p1, p2, p3)) (st := st) (near := near) (by assumption)).symm, hw.below⟩
          | exact ⟨congrArg Value.bool (fa_last (ws := ws) (p := (p1, p2, p3)) (st := st) (near := near) (by assumption) (by assumption) (by assumption) (by assumption)), hw.below⟩
      refine VL.no rfl rfl rfl rfl rfl (by decide) ?_
      refine VL.no rfl rfl rfl rfl rfl (by decide) ?_
      refine VL.r (.inl rfl) rfl (by decide) (yr_pick_f (u := .bool false) rfl rfl rfl) ?_
      refine VL.r (.inl rfl) rfl (by decide) (yr_move rfl rfl) ?_
      refine VL.no rfl rfl rfl rfl rfl (by decide) ?_
      refine VL.no rfl rfl rfl rfl rfl (by decide) ?_
      refine VL.r (.inl rfl) rfl (by decide) (yr_pick_f (u := .bool false) rfl rfl rfl) ?_
      refine VL.r (.inl rfl) rfl (by decide) (yr_assign rfl rfl) ?_
      refine VL.nil ?_
      refine VE.then_wp ?_
      refine V.ret ?_
      refine ret1 rfl rfl (fun w1 hw => ?_)
      first
        | exact ⟨congrArg Value.bool (fa_1 (ws := ws) (p := (p1, p2, p3)) (st := st) (near := near) (by assumption)).symm, hw.below⟩
        | exact ⟨congrArg Value.bool (fa_2 (ws := ws) (p := (p1, p2, p3)) (st := st) (near := near) (by assumption)).symm, hw.below⟩
        | exact ⟨congrArg Value.bool (fa_3 (ws := ws) (p := (p1, p2, p3)) (st := st) (near := near) (by assumption)).symm, hw.below⟩
        | exact ⟨congrArg Value.bool (fa_5 (ws := ws) (p := (p1, p2, p3)) (st := st) (near := near) (by assumption)).symm, hw.below⟩
        | exact ⟨congrArg Value.bool (fa_last (ws := ws) (p := (p1, p2, p3)) (st := st) (near := near) (by assumption) (by assumption) (by assumption) (by assumption)), hw.below⟩
    refine VL.no rfl rfl rfl rfl rfl (by decide) ?_
    refine VL.no rfl rfl rfl rfl rfl (by decide) ?_
    refine VL.r (.inl rfl) rfl (by decide) (yr_pick_f (u := .bool false) rfl rfl rfl) ?_
    refine VL.r (.inl rfl) rfl (by decide) (yr_move rfl rfl) ?_
    refine VL.no rfl rfl rfl rfl rfl (by decide) ?_
    refine VL.no rfl rfl rfl rfl rfl (by decide) ?_
    refine VL.r (.inl rfl) rfl (by decide) (yr_pick_f (u := .bool false) rfl rfl rfl) ?_
    refine VL.r (.inl rfl) rfl (by decide) (yr_move rfl rfl) ?_
    refine VL.no rfl rfl rfl rfl rfl (by decide) ?_
    refine VL.no rfl rfl rfl rfl rfl (by decide) ?_
    refine VL.r (.inl rfl) rfl (by decide) (yr_pick_f (u := .bool false) rfl rfl rfl) ?_
    refine VL.r (.inl rfl) rfl (by decide) (yr_assign rfl rfl) ?_
    refine VL.nil ?_
    refine VE.then_wp ?_
    refine V.ret ?_
    refine ret1 rfl rfl (fun w1 hw => ?_)
    first
      | exact ⟨congrArg Value.bool (fa_1 (ws := ws) (p := (p1, p2, p3)) (st := st) (near := near) (by assumption)).symm, hw.below⟩
      | exact ⟨congrArg Value.bool (fa_2 (ws := ws) (p := (p1, p2, p3)) (st := st) (near := near) (by assumption)).symm, hw.below⟩
      | exact ⟨congrArg Value.bool (fa_3 (ws := ws) (p := (p1, p2, p3)) (st := st) (near := near) (by assumption)).symm, hw.below⟩
      | exact ⟨congrArg Value.bool (fa_5 (ws := ws) (p := (p1, p2, p3)) (st := st) (near := near) (by assumption)).symm, hw.below⟩
      | exact ⟨congrArg Value.bool (fa_last (ws := ws) (p := (p1, p2, p3)) (st := st) (near := near) (by assumption) (by assumption) (by assumption) (by assumption)), hw.below⟩
  refine VL.no rfl rfl rfl rfl rfl (by decide) ?_
  refine VL.no rfl rfl rfl rfl rfl (by decide) ?_
  refine VL.r (.inl rfl) rfl (by decide) (yr_pick_f (u := .bool false) rfl rfl rfl) ?_
  refine VL.r (.inl rfl) rfl (by decide) (yr_move rfl rfl) ?_
  refine VL.no rfl rfl rfl rfl rfl (by decide) ?_
  refine VL.no rfl rfl rfl rfl rfl (by decide) ?_
  refine VL.r (.inl rfl) rfl (by decide) (yr_pick_f (u := .bool false) rfl rfl rfl) ?_
  refine VL.r (.inl rfl) rfl (by decide) (yr_move rfl rfl) ?_
  refine VL.no rfl rfl rfl rfl rfl (by decide) ?_
  refine VL.no rfl rfl rfl rfl rfl (by decide) ?_
  refine VL.r (.inl rfl) rfl (by decide) (yr_pick_f (u := .bool false) rfl rfl rfl) ?_
  refine VL.r (.inl rfl) rfl (by decide) (yr_move rfl rfl) ?_
  refine VL.no rfl rfl rfl rfl rfl (by decide) ?_
  refine VL.no rfl rfl rfl rfl rfl (by decide) ?_
  refine VL.r (.inl rfl) rfl (by decide) (yr_pick_f (u := .bool false) rfl rfl rfl) ?_
  refine VL.r (.inl rfl) rfl (by decide) (yr_assign rfl rfl) ?_
  refine VL.nil ?_
  refine VE.then_wp ?_
  refine V.ret ?_
  refine ret1 rfl rfl (fun w1 hw => ?_)
  first
    | exact ⟨congrArg Value.bool (fa_1 (ws := ws) (p := (p1, p2, p3)) (st := st) (near := near) (by assumption)).symm, hw.below⟩
    | exact ⟨congrArg Value.bool (fa_2 (ws := ws) (p := (p1, p2, p3)) (st := st) (near := near) (by assumption)).symm, hw.below⟩
    | exact ⟨congrArg Value.bool (fa_3 (ws := ws) (p := (p1, p2, p3)) (st := st) (near := near) (by assumption)).symm, hw.below⟩
    | exact ⟨congrArg Value.bool (fa_5 (ws := ws) (p := (p1, p2, p3)) (st := st) (near := near) (by assumption)).symm, hw.below⟩
    | exact ⟨congrArg Value.bool (fa_last (ws := ws) (p := (p1, p2, p3)) (st := st) (near := near) (by assumption) (by assumption) (by assumption) (by assumption)), hw.below⟩
theorem c_implFineS {w : World} {a : Option Addr} {c : Nat} {f : Nat → Option Addr × Nat} {ws : List Wr} {p1 p2 p3 : Nat} {st near : Nat} (hA : Cl w a (whd f ws)) (hR : WRws w f ws) (hn : wbulk ws ≤ 1050000) : Pure Try.prog 10 [.slice a ws.length c, vv (p1, p2, p3), .float .f32 st, .float .f32 near] w (.tuple #[vv (fsV ws (p1, p2, p3) st near), .int .i64 (fsN ws (p1, p2, p3) st near : Int), .bool (fsB ws (p1, p2, p3) st near)]) := by
  refine Pure.enter Try.func10 rfl Try.ntmps10 (Nat.le_of_ble_eq_true rfl) ?_
  have hwl : ws.length ≤ wbulk ws := by unfold wbulk; omega
  have hrw : ∀ k, k < ws.length → (ws.getD k zw).1.length ≤ 1050000 := fun k hk => by have := wbulk_row hk; omega
  refine V.seq ?_
  refine V.region ?_
  refine VL.new1 (.inl rfl) rfl (by decide) (yn_box rfl rfl (.inr ⟨rfl, rfl⟩)) ?_
  intro b5
  refine VL.new1 (.inl rfl) rfl (by decide) (yn_alloc rfl zero32_Fine rfl) ?_
  intro b8
  refine VL.r (.inl rfl) rfl (by decide) (yr_assign (u := .int .i64 0) rfl rfl) ?_
  refine VL.r (.inl rfl) rfl (by decide) (yr_assign (u := .bool false) rfl rfl) ?_
  refine VL.nil ?_
  refine VE.then_wp ?_
  refine V.seq ?_
  refine V.seq ?_
  refine V.region ?_
  refine VL.r (.inl rfl) rfl (by decide) (yr_move rfl rfl) ?_
  refine VL.q (.inl rfl) rfl (by decide) (yq_loadS rfl Try.underlying32 sz32_Fine rfl zz0 rfl rfl rfl) ?_
  refine VL.r (.inl rfl) rfl (by decide) (yr_move rfl rfl) ?_
  refine VL.r (.inl rfl) rfl (by decide) (yr_move rfl rfl) ?_
  refine VL.q (.inl rfl) rfl (by decide) (yq_callf rfl known29_Fine (.cons rfl (.cons rfl (.cons rfl (.cons rfl .nil)))) (fun w hw => (c_areFine zz2 (by first | exact WRws.root (by assumption) hw | exact WRws.own (by repeat (first | exact WRowsIn.here | exact WRowsIn.last | apply WRowsIn.there | apply WRowsIn.thereS)) hw) (by omega)))) ?_
  refine VL.r (.inl rfl) rfl (by decide) (yr_not rfl rfl) ?_
  refine VL.nil ?_
  refine VE.then_wp ?_
  refine V.cond rfl (fun h1 => ?_) (fun h1 => ?_)
  · skip
    replace h1 := bnot_t h1
    refine V.seq ?_
    refine V.region ?_
    refine VL.r (.inl rfl) rfl (by decide) (yr_build rfl lay32_Fine rfl .nil zz7 rfl) ?_
    refine VL.s (.inl rfl) rfl (yc_store rfl sz32_Fine rfl rfl zz3 (.inr ⟨rfl, rfl⟩) rfl zz4 (by decide) rfl) ?_
    rintro ⟨⟩
    refine VL.r (.inl rfl) rfl (by decide) (yr_assign (u := .int .i64 0) rfl rfl) ?_
    refine VL.r (.inl rfl) rfl (by decide) (yr_assign (u := .bool false) rfl rfl) ?_
    refine VL.nil ?_
    refine VE.then_wp ?_
    refine V.ret ?_
    refine VE.then_ret ?_
    refine retN rfl (.cons (rv_cellS rfl Try.underlying32 sz32_Fine zz0 rfl rfl rfl) (.cons (rv_tmp rfl (by nofun)) (.cons (rv_tmp rfl (by nofun)) .nil))) (by nofun) (fun w1 hw => ?_)
    first
      | exact ⟨fs_yes (ws := ws) (p := (p1, p2, p3)) (st := st) (near := near) (by assumption), hw.below⟩
      | exact ⟨fs_no (ws := ws) (p := (p1, p2, p3)) (st := st) (near := near) (by assumption), hw.below⟩
  replace h1 := bnot_f h1
  have hvp := fa_is h1
  have hv := hvp.1
  refine V.skip ?_
  refine VE.then_wp ?_
  refine V.seq ?_
  refine V.draw [(0, 0), (2, 0), (3, 0), (4, 0), (1, 1), (5, 0), (6, 0), (7, 0), (8, 0), (9, 3), (10, 0), (11, 0)] mixed_Fine (by kernel_rfl) (by intro j o hj; simp at hj) ?_
  refine SW.r rfl (.inl rfl) rfl (by decide) (yr_move rfl rfl) ?_
  refine SW.q rfl (.inl rfl) rfl (by decide) (yq_loadS rfl Try.underlying32 sz32_Fine rfl zz0 rfl rfl rfl) ?_
  refine SW.r rfl (.inl rfl) rfl (by decide) (yr_move rfl rfl) ?_
  refine SW.r rfl (.inl rfl) rfl (by decide) (yr_move rfl rfl) ?_
  refine SW.new1 rfl (.inl rfl) rfl (by decide) (yn_callf rfl known26_Fine (.cons rfl .nil) (fun w hw => c_fieldOf)) ?_
  intro b19
  refine SW.q rfl (.inl rfl) rfl (by decide) (yq_callf rfl known30_Fine (.cons rfl (.cons rfl (.cons rfl (.cons rfl .nil)))) (fun w hw => (c_fine known42_Fine (fun w1 hb q => c_fieldOf1 (q := some ⟨b19, 0, none⟩) (p1 := q.1) (p2 := q.2.1) (p3 := q.2.2) (Cl.below (Sees.own (by repeat (first | exact List.mem_cons_self | apply List.mem_cons_of_mem | apply List.mem_append_right)) w hw) hb) ((Sees.root hA w hw).below hb) ((hR.root hw).below hb) hn (by assumption)) hvp.2))) ?_
  refine SW.r rfl (.inl rfl) rfl (by decide) (yr_extract rfl rfl rfl (by nofun)) ?_
  refine SW.r rfl (.inl rfl) rfl (by decide) (yr_extract rfl rfl rfl (by nofun)) ?_
  refine SW.r rfl (.inl rfl) rfl (by decide) (yr_extract rfl rfl rfl (by nofun)) ?_
  refine SW.s rfl (.inl rfl) rfl (yc_store rfl sz32_Fine rfl rfl zz3 (.inr ⟨rfl, rfl⟩) rfl zz4 (by decide) rfl) ?_
  rintro ⟨⟩
  refine SW.r rfl (.inl rfl) rfl (by decide) (yr_assign rfl rfl) ?_
  refine SW.r rfl (.inl rfl) rfl (by decide) (yr_assign rfl rfl) ?_
  refine SW.done ?_
  refine VE.then_wp ?_
  refine V.ret ?_
  refine retN rfl (.cons (rv_cellS rfl Try.underlying32 sz32_Fine zz0 rfl rfl rfl) (.cons (rv_tmp rfl (by nofun)) (.cons (rv_tmp rfl (by nofun)) .nil))) (by nofun) (fun w1 hw => ?_)
  first
    | exact ⟨fs_yes (ws := ws) (p := (p1, p2, p3)) (st := st) (near := near) (by assumption), hw.below⟩
    | exact ⟨fs_no (ws := ws) (p := (p1, p2, p3)) (st := st) (near := near) (by assumption), hw.below⟩
end Go.Proofs.Ytfkblhlkeglilaa

namespace Go.Proofs.Ytfkblhlkeglilaa
open Go.RowKit
/-- the place, the sum of the parts, whether all steps were made -/
def fiK (ws : List Wr) (p : V3) (st near : Nat) : Nat → V3 × Nat × Bool
  | 0 => (p, 0, true)
  | k + 1 => if (fiK ws p st near k).2.2 then (fnV ws (fiK ws p st near k).1 st near, (fiK ws p st near k).2.1 + fnN ws (fiK ws p st near k).1 st near, fnB ws (fiK ws p st near k).1 st near) else (z3, 0, false)
def fiL (ws : List Wr) (p : V3) (st near k : Nat) : List V3 := (List.range (k + 1)).map fun i => (fiK ws p st near i).1
def fiM (ws : List Wr) (p : V3) (st near n : Nat) : Nat := if 0 ≤ idxI (fun i => !(fiK ws p st near (i + 1)).2.2) n then (idxI (fun i => !(fiK ws p st near (i + 1)).2.2) n).toNat else n
section
variable {ws : List Wr} {p : V3} {st near k n : Nat}
theorem fiK_zero (ws : List Wr) (p : V3) (st near : Nat) : fiK ws p st near 0 = (p, 0, true) := rfl
theorem fiK_succ (h : (fiK ws p st near k).2.2 = true) : fiK ws p st near (k + 1) = (fnV ws (fiK ws p st near k).1 st near, (fiK ws p st near k).2.1 + fnN ws (fiK ws p st near k).1 st near, fnB ws (fiK ws p st near k).1 st near) := by rw [fiK, h]; rfl
theorem fiK_box (h : (fiK ws p st near k).2.2 = true) : fnV ws (fiK ws p st near k).1 st near = (fiK ws p st near (k + 1)).1 := by rw [fiK_succ h]
theorem fiK_sum (h : (fiK ws p st near k).2.2 = true) : (fiK ws p st near (k + 1)).2.1 = (fiK ws p st near k).2.1 + fnN ws (fiK ws p st near k).1 st near := by rw [fiK_succ h]
theorem fiK_sum_le : ∀ k, (fiK ws p st near k).2.1 ≤ 64 * k
  | 0 => Nat.zero_le _
  | k + 1 => by
    have ih := fiK_sum_le k
    have := fnN_le (ws := ws) (p := (fiK ws p st near k).1) (st := st) (near := near)
    rw [fiK]; split
    · simp only; omega
    · exact Nat.zero_le _
theorem stN_fin {n : Nat} (hp : fin3 p = true) (h : (stN ws p st n).2 = true) : fin3 (stN ws p st n).1 = true := by
  unfold stN at h ⊢
  revert h
  generalize hN st n = h0
  cases n with
  | zero => intro _; exact hp
  | succ k =>
    intro h
    cases hk : (stK ws p h0 k).2
    · rw [stK, hk] at h; cases h
    · rw [stK_succ hk] at h ⊢
      exact step_fin h
theorem fnV_fin (hp : fin3 p = true) (h : fnB ws p st near = true) : fin3 (fnV ws p st near) = true := by
  have h0 : 0 ≤ fnI ws p st near := of_decide_eq_true h
  have hlt : fnI ws p st near < ((6 : Nat) : Int) := idxI_lt _ _
  have hok : fineOk ws p st near (fnI ws p st near).toNat = true := idxI_ok h0
  unfold fnV; rw [h]
  unfold fineOk at hok
  simp only [Bool.and_eq_true] at hok
  exact stN_fin hp hok.1.2
where
  idxI_ok {q : Nat → Bool} : ∀ {n : Nat}, 0 ≤ idxI q n → q (idxI q n).toNat = true
    | 0, h => by exact absurd (show (0 : Int) ≤ -1 from h) (by decide)
    | n + 1, h => by
      rw [idxI] at h ⊢
      split at h
      · rename_i h1
        rw [if_pos h1]
        exact idxI_ok h1
      · rename_i h1
        rw [if_neg h1]
        split at h
        · rename_i h2
          rw [if_pos h2]; simpa using h2
        · exact absurd h (by decide)
theorem fiK_ok (h : (fiK ws p st near k).2.2 = true) (hf : fin3 (fiK ws p st near k).1 = true) (h2 : fnB ws (fiK ws p st near k).1 st near = true) : (fiK ws p st near (k + 1)).2.2 = true ∧ fin3 (fiK ws p st near (k + 1)).1 = true := by
  rw [fiK_succ h]; exact ⟨h2, fnV_fin hf h2⟩
theorem fiL_length : (fiL ws p st near k).length = k + 1 := by simp [fiL]
theorem fiL_zero : fiL ws p st near 0 = [p] := by simp [fiL, fiK]
theorem fiL_snoc : vl (fiL ws p st near k) ++ vl [(fiK ws p st near (k + 1)).1] = vl (fiL ws p st near (k + 1)) := by
  rw [vl_append]; unfold fiL; rw [List.range_succ (n := k + 1)]; simp
theorem fiL_get {i : Nat} (h : i < k + 1) : (fiL ws p st near k).getD i z3 = (fiK ws p st near i).1 := by simp [fiL, List.getD, h]
theorem fiM_all (h : ∀ j, j < n → (fiK ws p st near (j + 1)).2.2 = true) : fiM ws p st near n = n := by
  unfold fiM
  rw [idxI_no (fun j hj => by rw [h j hj]; rfl)]
  rfl
theorem fiM_at (h : ∀ j, j < k → (fiK ws p st near (j + 1)).2.2 = true) (hk : k < n) (h2 : (fiK ws p st near (k + 1)).2.2 = false) : fiM ws p st near n = k := by
  unfold fiM
  rw [idxI_of (k := k) (fun j hj => by rw [h j hj]; rfl) (by rw [h2]; rfl) hk]
  simp
end
def fiOk (ws : List Wr) (p : V3) (st near : Nat) (rn : Int) : Bool := fineArgs ws p st near && decide (0 ≤ rn ∧ rn ≤ 63)
def fiV (ws : List Wr) (p : V3) (st near : Nat) (rn : Int) : List V3 := if fiOk ws p st near rn then fiL ws p st near (fiM ws p st near rn.toNat) else []
def fiS (ws : List Wr) (p : V3) (st near : Nat) (rn : Int) : Nat := if fiOk ws p st near rn then (fiK ws p st near (fiM ws p st near rn.toNat)).2.1 else 0
section
variable {ws : List Wr} {p : V3} {st near : Nat} {rn : Int}
theorem fi_1 (h : fineArgs ws p st near = false) : fiOk ws p st near rn = false := by unfold fiOk; rw [h]; rfl
theorem fi_2 (h : decide (0 ≤ rn ∧ rn ≤ 63) = false) : fiOk ws p st near rn = false := by unfold fiOk; rw [h, Bool.and_false]
theorem fi_yes (h1 : fineArgs ws p st near = true) (h4 : decide (0 ≤ rn ∧ rn ≤ 63) = true) : fiOk ws p st near rn = true := by unfold fiOk; rw [h1, h4]; rfl
theorem fiV_yes {k : Nat} (h : fiOk ws p st near rn = true) (hm : fiM ws p st near rn.toNat = k) : fiV ws p st near rn = fiL ws p st near k := by unfold fiV; rw [h, hm]; rfl
theorem fiS_yes {k : Nat} (h : fiOk ws p st near rn = true) (hm : fiM ws p st near rn.toNat = k) : fiS ws p st near rn = (fiK ws p st near k).2.1 := by unfold fiS; rw [h, hm]; rfl
theorem fiV_no (h : fiOk ws p st near rn = false) : fiV ws p st near rn = [] := by unfold fiV; rw [h]; rfl
theorem fiS_no (h : fiOk ws p st near rn = false) : fiS ws p st near rn = 0 := by unfold fiS; rw [h]; rfl
end
end Go.Proofs.Ytfkblhlkeglilaa

namespace Go.Proofs.Ytfkblhlkeglilaa
open Go.RowKit
set_option linter.unusedVariables false
set_option linter.unusedSimpArgs false
set_option maxRecDepth 20000
theorem sz32_FiLine : (Try.prog.info? 32).map (·.size) = some 3 := by kernel_rfl
theorem known29_FiLine : Known Try.prog 29 := Known.mk' Try.func29 (by kernel_rfl)
theorem known25_FiLine : Known Try.prog 25 := Known.mk' Try.func25 (by kernel_rfl)
theorem elt32_FiLine : Elt Try.prog 32 [Value.float .f32 0, Value.float .f32 0, Value.float .f32 0] 12 := Elt.mk' (by kernel_rfl) (by decide)
theorem mixed_FiLine : Try.prog.follows .mixedOrders = true := by kernel_rfl
theorem known26_FiLine : Known Try.prog 26 := Known.mk' Try.func26 (by kernel_rfl)
theorem known42_FiLine : Known Try.prog 42 := Known.mk' Try.func42 (by kernel_rfl)
theorem known30_FiLine : Known Try.prog 30 := Known.mk' Try.func30 (by kernel_rfl)
theorem zero32_FiLine : (Try.prog.info? 32).bind (·.zero) = some (Value.agg #[Value.float .f32 0, Value.float .f32 0, Value.float .f32 0]) := by kernel_rfl
attribute [local irreducible] fop fcmp fconv sqrt32 fneg segF fieldS fieldI List.getD unit3 dirV dirI midI stepV stepOk dirOk stK stN pw fineOk fnV fnN fnB fiK fiL fiM fiV fiS fiOk fineArgs
theorem c_implFiL {w : World} {a : Option Addr} {c : Nat} {f : Nat → Option Addr × Nat} {ws : List Wr} {p1 p2 p3 : Nat} {st near : Nat} {rn : Int} (hA : Cl w a (whd f ws)) (hR : WRws w f ws) (hn : wbulk ws ≤ 1050000) : New Try.prog 11 [.slice a ws.length c, vv (p1, p2, p3), .float .f32 st, .float .f32 near, .int .i64 rn] w (fun p : Option Addr × Nat => .tuple #[.slice p.1 (fiV ws (p1, p2, p3) st near rn).length p.2, .int .i64 ((fiS ws (p1, p2, p3) st near rn) : Int), .bool (fiOk ws (p1, p2, p3) st near rn)]) (fun p => [⟨p.1, vl (fiV ws (p1, p2, p3) st near rn), p.2 * 3, 32⟩]) := by
  refine New.enter Try.func11 rfl Try.ntmps11 (Nat.le_of_ble_eq_true rfl) ?_
  have hwl : ws.length ≤ wbulk ws := by unfold wbulk; omega
  have hrw : ∀ k, k < ws.length → (ws.getD k zw).1.length ≤ 1050000 := fun k hk => by have := wbulk_row hk; omega
  refine V.seq ?_
  refine V.region ?_
  refine VL.new1 (.inl rfl) rfl (by decide) (yn_box rfl rfl (.inr ⟨rfl, rfl⟩)) ?_
  intro b6
  refine VL.r (.inl rfl) rfl (by decide) (yr_assign (u := .slice none 0 0) rfl rfl) ?_
  refine VL.r (.inl rfl) rfl (by decide) (yr_assign (u := .int .i64 0) rfl rfl) ?_
  refine VL.r (.inl rfl) rfl (by decide) (yr_assign (u := .bool false) rfl rfl) ?_
  refine VL.nil ?_
  refine VE.then_wp ?_
  refine V.seq ?_
  refine V.seq ?_
  refine V.region ?_
  refine VL.r (.inl rfl) rfl (by decide) (yr_move rfl rfl) ?_
  refine VL.q (.inl rfl) rfl (by decide) (yq_loadS rfl Try.underlying32 sz32_FiLine rfl zz0 rfl rfl rfl) ?_
  refine VL.r (.inl rfl) rfl (by decide) (yr_move rfl rfl) ?_
  refine VL.r (.inl rfl) rfl (by decide) (yr_move rfl rfl) ?_
  refine VL.q (.inl rfl) rfl (by decide) (yq_callf rfl known29_FiLine (.cons rfl (.cons rfl (.cons rfl (.cons rfl .nil)))) (fun w hw => (c_areFine zz2 (by first | exact WRws.root (by assumption) hw | exact WRws.own (by repeat (first | exact WRowsIn.here | exact WRowsIn.last | apply WRowsIn.there | apply WRowsIn.thereS)) hw) (by omega)))) ?_
  refine VL.r (.inl rfl) rfl (by decide) (yr_not rfl rfl) ?_
  refine VL.r (.inl rfl) rfl (by decide) (yr_move rfl rfl) ?_
  refine VX.split 24 _ rfl (fun h1 => ?_) (fun h1 => ?_)
  · skip
    replace h1 := bnot_t h1
    refine VL.no rfl rfl rfl rfl rfl (by decide) ?_
    refine VL.no rfl rfl rfl rfl rfl (by decide) ?_
    refine VL.no rfl rfl rfl rfl rfl (by decide) ?_
    refine VL.r (.inl rfl) rfl (by decide) (yr_pick_t (u := .bool true) rfl rfl rfl) ?_
    refine VL.nil ?_
    refine VE.then_wp ?_
    refine V.condT rfl ?_
    refine V.seq ?_
    refine V.region ?_
    refine VL.r (.inl rfl) rfl (by decide) (yr_assign (u := .slice none 0 0) rfl rfl) ?_
    refine VL.r (.inl rfl) rfl (by decide) (yr_assign (u := .int .i64 0) rfl rfl) ?_
    refine VL.r (.inl rfl) rfl (by decide) (yr_assign (u := .bool false) rfl rfl) ?_
    refine VL.nil ?_
    refine VE.then_wp ?_
    refine V.ret ?_
    refine VE.then_ret ?_
    refine ret3 rfl rfl rfl rfl (by nofun) (by nofun) (by nofun) (fun w1 hw => ?_)
    first
      | (have hs : (fiOk ws (p1, p2, p3) st near rn) = true := fi_yes (by assumption) (by assumption)
         have hkr : k = rn.toNat := by omega
         subst hkr
         have hm := fiM_all (ws := ws) (p := (p1, p2, p3)) (st := st) (near := near) hI
         have h9 : Hp _ [⟨a9, vl (fiL ws (p1, p2, p3) st near rn.toNat), c9 * 3, 32⟩] w1 := hw.pick (by apply Pick.one; repeat (first | exact Rem.here | apply Rem.there))
         exact ⟨(a9, c9), by rw [fiV_yes hs hm, fiS_yes hs hm, hs, fiL_length], by rw [fiV_yes hs hm]; exact h9.out1⟩)
      | (have hs : (fiOk ws (p1, p2, p3) st near rn) = true := fi_yes (by assumption) (by assumption)
         have hm := fiM_at (ws := ws) (p := (p1, p2, p3)) (st := st) (near := near) (n := rn.toNat) hI (by omega) (by rw [fiK_succ hk2]; assumption)
         have h9 : Hp _ [⟨a9, vl (fiL ws (p1, p2, p3) st near k), c9 * 3, 32⟩] w1 := hw.pick (by apply Pick.one; repeat (first | exact Rem.here | apply Rem.there))
         exact ⟨(a9, c9), by rw [fiV_yes hs hm, fiS_yes hs hm, hs, fiL_length], by rw [fiV_yes hs hm]; exact h9.out1⟩)
      | (have hs : (fiOk ws (p1, p2, p3) st near rn) = false := by first | exact fi_2 (by assumption) | exact fi_1 (by first | exact fa_1 (by assumption) | assumption)
         exact ⟨(none, 0), by rw [fiV_no hs, fiS_no hs, hs]; rfl, hw.below, by rw [fiV_no hs]; simp [vl, Ent.at], List.pairwise_singleton _ _⟩)
  replace h1 := bnot_f h1
  have hvp := fa_is h1
  have hv := hvp.1
  have hvf := hvp.2
  refine VL.r (.inr ⟨_, _, _, rfl, rfl, rfl⟩) rfl (by decide) (yr_move rfl rfl) ?_
  refine VL.q (.inr ⟨_, _, _, rfl, rfl, rfl⟩) rfl (by decide) (yq_callf rfl known25_FiLine (.cons rfl .nil) (fun w hw => c_isLC)) ?_
  refine VL.r (.inr ⟨_, _, _, rfl, rfl, rfl⟩) rfl (by decide) (yr_not rfl rfl) ?_
  refine VL.r (.inl rfl) rfl (by decide) (yr_pick_f rfl rfl rfl) ?_
  refine VL.nil ?_
  refine VE.then_wp ?_
  refine V.cond rfl (fun h3 => ?_) (fun h3 => ?_)
  · skip
    replace h3 := bnot_t h3
    refine V.seq ?_
    refine V.region ?_
    refine VL.r (.inl rfl) rfl (by decide) (yr_assign (u := .slice none 0 0) rfl rfl) ?_
    refine VL.r (.inl rfl) rfl (by decide) (yr_assign (u := .int .i64 0) rfl rfl) ?_
    refine VL.r (.inl rfl) rfl (by decide) (yr_assign (u := .bool false) rfl rfl) ?_
    refine VL.nil ?_
    refine VE.then_wp ?_
    refine V.ret ?_
    refine VE.then_ret ?_
    refine ret3 rfl rfl rfl rfl (by nofun) (by nofun) (by nofun) (fun w1 hw => ?_)
    first
      | (have hs : (fiOk ws (p1, p2, p3) st near rn) = true := fi_yes (by assumption) (by assumption)
         have hkr : k = rn.toNat := by omega
         subst hkr
         have hm := fiM_all (ws := ws) (p := (p1, p2, p3)) (st := st) (near := near) hI
         have h9 : Hp _ [⟨a9, vl (fiL ws (p1, p2, p3) st near rn.toNat), c9 * 3, 32⟩] w1 := hw.pick (by apply Pick.one; repeat (first | exact Rem.here | apply Rem.there))
         exact ⟨(a9, c9), by rw [fiV_yes hs hm, fiS_yes hs hm, hs, fiL_length], by rw [fiV_yes hs hm]; exact h9.out1⟩)
      | (have hs : (fiOk ws (p1, p2, p3) st near rn) = true := fi_yes (by assumption) (by assumption)
         have hm := fiM_at (ws := ws) (p := (p1, p2, p3)) (st := st) (near := near) (n := rn.toNat) hI (by omega) (by rw [fiK_succ hk2]; assumption)
         have h9 : Hp _ [⟨a9, vl (fiL ws (p1, p2, p3) st near k), c9 * 3, 32⟩] w1 := hw.pick (by apply Pick.one; repeat (first | exact Rem.here | apply Rem.there))
         exact ⟨(a9, c9), by rw [fiV_yes hs hm, fiS_yes hs hm, hs, fiL_length], by rw [fiV_yes hs hm]; exact h9.out1⟩)
      | (have hs : (fiOk ws (p1, p2, p3) st near rn) = false := by first | exact fi_2 (by assumption) | exact fi_1 (by first | exact fa_1 (by assumption) | assumption)
         exact ⟨(none, 0), by rw [fiV_no hs, fiS_no hs, hs]; rfl, hw.below, by rw [fiV_no hs]; simp [vl, Ent.at], List.pairwise_singleton _ _⟩)
  replace h3 := bnot_f h3
  refine V.skip ?_
  refine VE.then_wp ?_
  refine V.seq ?_
  refine V.region ?_
  refine VL.q (.inl rfl) rfl (by decide) (yq_loadS rfl Try.underlying32 sz32_FiLine rfl zz0 rfl rfl rfl) ?_
  refine VL.new1 (.inl rfl) rfl (by decide) (yn_buildSlice rfl Try.underlying24 elt32_FiLine rfl (by decide) (.cons rfl .nil) (by first | (simp; done) | (simp [vv]; done)) rfl rfl) ?_
  intro b30
  refine VL.r (.inl rfl) rfl (by decide) (yr_assign rfl rfl) ?_
  refine VL.nil ?_
  refine VE.then_wp ?_
  refine V.seq ?_
  refine V.region ?_
  refine VL.r (.inl rfl) rfl (by decide) (yr_assign (u := .int .i64 0) rfl rfl) ?_
  refine VL.nil ?_
  refine VE.then_wp ?_
  refine V.seq ?_
  refine V.seq ?_
  refine V.region ?_
  refine VL.r (.inl rfl) rfl (by decide) (yr_move rfl rfl) ?_
  refine VL.r (.inl rfl) rfl (by decide) (yr_move (u := .int .i64 0) rfl rfl) ?_
  refine VL.nil ?_
  refine VE.then_wp ?_
  refine V.block ?_
  refine V.loopc (G := Nat × (Option Addr) × Nat) [(0, _), (2, _), (3, _), (31, _)] (fun ⟨k, a9, c9⟩ => k ≤ rn.toNat ∧ (∀ j, j < k → (fiK ws (p1, p2, p3) st near (j + 1)).2.2 = true) ∧ (fiK ws (p1, p2, p3) st near k).2.2 = true ∧ fin3 (fiK ws (p1, p2, p3) st near k).1 = true) (fun ⟨k, a9, c9⟩ => [⟨a9, vl (fiL ws (p1, p2, p3) st near k), c9 * 3, 32⟩, ⟨some ⟨b6, 0, none⟩, [.float .f32 ((p1, p2, p3)).1, .float .f32 ((p1, p2, p3)).2.1, .float .f32 ((p1, p2, p3)).2.2], 3, 32⟩]) (fun ⟨k, a9, c9⟩ => [(13, .slice a9 (k + 1) c9), (14, .int .i64 ((fiK ws (p1, p2, p3) st near k).2.1 : Int)), (32, .int .i64 (k : Int))]) (fun ⟨k, a9, c9⟩ => rn.toNat - k) (0, some ⟨b30, 0, none⟩, 1) (.cons rfl (.cons rfl (.cons rfl (.cons rfl .nil)))) (.cons rfl (.cons (congrArg (fun i => some (Value.int .i64 i)) (by rw [fiK_zero]; rfl)) (.cons (congrArg (fun i => some (Value.int .i64 i)) (by omega)) .nil))) ?_ ?_ ?_
  · exact (fun w hw => by dsimp only; rw [fiL_zero]; exact hw)
  · exact (by dsimp only; rw [fiK_zero]; exact ⟨by omega, fun j h => by omega, rfl, by assumption⟩)
  rintro ⟨k, a9, c9⟩ ⟨hk, hI, hk2, hk3⟩
  show V _ _ _ [⟨a9, vl (fiL ws (p1, p2, p3) st near k), c9 * 3, 32⟩, ⟨some ⟨b6, 0, none⟩, [.float .f32 ((p1, p2, p3)).1, .float .f32 ((p1, p2, p3)).2.1, .float .f32 ((p1, p2, p3)).2.2], 3, 32⟩] ([(13, .slice a9 (k + 1) c9), (14, .int .i64 ((fiK ws (p1, p2, p3) st near k).2.1 : Int)), (32, .int .i64 (k : Int))] ++ [(0, _), (2, _), (3, _), (31, _)]) _ _
  have hs1 := fiK_sum_le (ws := ws) (p := (p1, p2, p3)) (st := st) (near := near) k
  have hs2 := fnN_le (ws := ws) (p := (fiK ws (p1, p2, p3) st near k).1) (st := st) (near := near)
  have hs3 : fnN ws ((fiK ws (p1, p2, p3) st near k).1.1, (fiK ws (p1, p2, p3) st near k).1.2.1, (fiK ws (p1, p2, p3) st near k).1.2.2) st near = fnN ws (fiK ws (p1, p2, p3) st near k).1 st near := rfl
  have hrn9 := of_decide_eq_true (p := 0 ≤ rn ∧ rn ≤ 63) (by assumption)
  refine V.seq ?_
  refine V.region ?_
  refine VL.r (.inl rfl) rfl (by decide) (yr_icmp rfl (.inr (.inr (.inl rfl))) rfl rfl) ?_
  refine VL.nil ?_
  refine VE.then_wp ?_
  refine V.seq ?_
  refine V.cond rfl (fun h4 => ?_) (fun h4 => ?_)
  · skip
    replace h4 := ic_lss h4
    refine V.skip ?_
    refine VE.then_wp ?_
    refine V.seq ?_
    refine V.block ?_
    refine V.seq ?_
    refine Dr.V.drawR [(0, 5), (2, 5), (3, 5), (4, 5), (5, 5), (6, 5), (7, 5), (8, 5), (9, 5), (1, 1), (10, 0), (11, 5), (12, 5), (13, 5), (14, 5), (15, 2), (16, 3), (17, 5), (18, 5)] [(15, ((fun b => .pointer (some (adr (some ⟨b, 0, none⟩) 0))), (fun b => ⟨some ⟨b, 0, none⟩, [Value.float .f32 0, Value.float .f32 0, Value.float .f32 0], 3, 32⟩)))] [] _ mixed_FiLine (by kernel_rfl) (fun w hw => hw) ?_
    refine Dr.SW.r rfl (.inl rfl) rfl (by decide) (yr_move rfl rfl) ?_
    refine Dr.SW.r rfl (.inl rfl) rfl (by decide) (yr_move rfl rfl) ?_
    refine Dr.SW.r rfl (.inl rfl) rfl (by decide) (yr_move rfl rfl) ?_
    refine Dr.SW.r rfl (.inl rfl) rfl (by decide) (yr_len rfl Try.underlying24 rfl) ?_
    refine Dr.SW.r rfl (.inl rfl) rfl (by decide) (yr_int rfl rfl rfl (.inr (.inl ⟨rfl, wrap_in (by omega)⟩))) ?_
    refine Dr.SW.p rfl (.inl rfl) rfl (by decide) (yq_idxN (k := k) rfl Try.underlying24 sz32_FiLine rfl rfl zz1 zz6 (by rw [vl_length, fiL_length]) (by decide) (by omega)) ?_
    refine Dr.SW.p rfl (.inl rfl) rfl (by decide) (show YQ _ _ _ _ _ (vv (fiK ws (p1, p2, p3) st near k).1) from by rw [← fiL_get (ws := ws) (p := (p1, p2, p3)) (st := st) (near := near) (k := k) (i := k) (by omega)]; exact yq_loadV rfl Try.underlying32 sz32_FiLine rfl zz1 (by rw [fiL_length]; omega)) ?_
    refine Dr.SW.r rfl (.inl rfl) rfl (by decide) (yr_move rfl rfl) ?_
    refine Dr.SW.r rfl (.inl rfl) rfl (by decide) (yr_move rfl rfl) ?_
    refine Dr.SW.new1 rfl (.inl rfl) rfl (by decide) (yn_callf rfl known26_FiLine (.cons rfl .nil) (fun w hw => c_fieldOf)) ?_
    intro b36
    refine Dr.SW.q rfl (.inl rfl) rfl (by decide) (yq_callf rfl known30_FiLine (.cons rfl (.cons rfl (.cons rfl (.cons rfl .nil)))) (fun w hw => (c_fine (p1 := (fiK ws (p1, p2, p3) st near k).1.1) (p2 := (fiK ws (p1, p2, p3) st near k).1.2.1) (p3 := (fiK ws (p1, p2, p3) st near k).1.2.2) known42_FiLine (fun w1 hb q => c_fieldOf1 (q := some ⟨b36, 0, none⟩) (p1 := q.1) (p2 := q.2.1) (p3 := q.2.2) (Cl.below (Sees.own (by repeat (first | exact List.mem_cons_self | apply List.mem_cons_of_mem | apply List.mem_append_right)) w hw) hb) ((Sees.root hA w hw).below hb) ((hR.root hw).below hb) hn (by assumption)) hk3))) ?_
    refine Dr.SW.r rfl (.inl rfl) rfl (by decide) (yr_move rfl rfl) ?_
    refine Dr.SW.r rfl (.inl rfl) rfl (by decide) (yr_extract rfl rfl rfl (by nofun)) ?_
    refine Dr.SW.r rfl (.inl rfl) rfl (by decide) (yr_extract rfl rfl rfl (by nofun)) ?_
    refine Dr.SW.r rfl (.inl rfl) rfl (by decide) (yr_extract rfl rfl rfl (by nofun)) ?_
    refine Dr.SW.a rfl rfl rfl (by decide) rfl (fun w0 => (yn_alloc rfl zero32_FiLine rfl)) ?_
    intro b15
    refine Dr.SW.s rfl (.inl rfl) rfl (yc_store rfl sz32_FiLine rfl rfl (Dr.UpdF.app zz3) (.inr ⟨rfl, rfl⟩) rfl zz4 (by decide) rfl) ?_
    rintro ⟨⟩
    refine Dr.SW.r rfl (.inl rfl) rfl (by decide) (yr_assign rfl rfl) ?_
    refine Dr.SW.r rfl (.inl rfl) rfl (by decide) (yr_assign rfl rfl) ?_
    refine Dr.SW.done ?_
    refine Dr.eqO (by simp only [List.append_nil, List.append_assoc, List.cons_append, List.nil_append] <;> rfl) ?_
    refine VE.then_wp ?_
    refine V.seq ?_
    refine V.seq ?_
    refine V.region ?_
    refine VL.r (.inl rfl) rfl (by decide) (yr_move rfl rfl) ?_
    refine VL.r (.inl rfl) rfl (by decide) (yr_not rfl rfl) ?_
    refine VL.nil ?_
    refine VE.then_wp ?_
    refine V.cond rfl (fun h5 => ?_) (fun h5 => ?_)
    · skip
      replace h5 := bnot_t h5
      refine V.exit ?_
      refine VE.then_exit ?_
      refine VE.block_on rfl ?_
      refine VE.then_exit ?_
      refine VE.then_exit ?_
      refine VE.block_here ?_
      refine VE.then_wp ?_
      refine V.seq ?_
      refine V.region ?_
      refine VL.r (.inl rfl) rfl (by decide) (yr_move rfl rfl) ?_
      refine VL.r (.inl rfl) rfl (by decide) (yr_move rfl rfl) ?_
      refine VL.r (.inl rfl) rfl (by decide) (yr_assign rfl rfl) ?_
      refine VL.r (.inl rfl) rfl (by decide) (yr_assign rfl rfl) ?_
      refine VL.r (.inl rfl) rfl (by decide) (yr_assign (u := .bool true) rfl rfl) ?_
      refine VL.nil ?_
      refine VE.then_wp ?_
      refine V.ret ?_
      refine ret3 rfl rfl rfl rfl (by nofun) (by nofun) (by nofun) (fun w1 hw => ?_)
      first
        | (have hs : (fiOk ws (p1, p2, p3) st near rn) = true := fi_yes (by assumption) (by assumption)
           have hkr : k = rn.toNat := by omega
           subst hkr
           have hm := fiM_all (ws := ws) (p := (p1, p2, p3)) (st := st) (near := near) hI
           have h9 : Hp _ [⟨a9, vl (fiL ws (p1, p2, p3) st near rn.toNat), c9 * 3, 32⟩] w1 := hw.pick (by apply Pick.one; repeat (first | exact Rem.here | apply Rem.there))
           exact ⟨(a9, c9), by rw [fiV_yes hs hm, fiS_yes hs hm, hs, fiL_length], by rw [fiV_yes hs hm]; exact h9.out1⟩)
        | (have hs : (fiOk ws (p1, p2, p3) st near rn) = true := fi_yes (by assumption) (by assumption)
           have hm := fiM_at (ws := ws) (p := (p1, p2, p3)) (st := st) (near := near) (n := rn.toNat) hI (by omega) (by rw [fiK_succ hk2]; assumption)
           have h9 : Hp _ [⟨a9, vl (fiL ws (p1, p2, p3) st near k), c9 * 3, 32⟩] w1 := hw.pick (by apply Pick.one; repeat (first | exact Rem.here | apply Rem.there))
           exact ⟨(a9, c9), by rw [fiV_yes hs hm, fiS_yes hs hm, hs, fiL_length], by rw [fiV_yes hs hm]; exact h9.out1⟩)
        | (have hs : (fiOk ws (p1, p2, p3) st near rn) = false := by first | exact fi_2 (by assumption) | exact fi_1 (by first | exact fa_1 (by assumption) | assumption)
           exact ⟨(none, 0), by rw [fiV_no hs, fiS_no hs, hs]; rfl, hw.below, by rw [fiV_no hs]; simp [vl, Ent.at], List.pairwise_singleton _ _⟩)
    replace h5 := bnot_f h5
    refine V.skip ?_
    refine VE.then_wp ?_
    refine V.seq ?_
    refine V.region ?_
    refine VL.r (.inl rfl) rfl (by decide) (yr_move rfl rfl) ?_
    refine VL.q (.inl rfl) rfl (by decide) (yq_loadS rfl Try.underlying32 sz32_FiLine rfl zz0 rfl rfl rfl) ?_
    refine VL.new1 (.inl rfl) rfl (by decide) (yn_buildSlice rfl Try.underlying24 elt32_FiLine rfl (by decide) (.cons rfl .nil) (by first | (simp; done) | (simp [vv]; done)) rfl rfl) ?_
    intro b53
    refine VL.c (.inl rfl) rfl (by decide) (yc_appendz 3 rfl rfl Try.underlying24 elt32_FiLine rfl rfl zz3 zz0 rfl (by rw [vl_length, fiL_length]) rfl (vl_scal _) rfl (by omega) (by omega)) ?_
    rintro ⟨a54, c54⟩
    refine VL.r (.inl rfl) rfl (by decide) (yr_assign rfl rfl) ?_
    refine VL.nil ?_
    refine VE.then_wp ?_
    refine V.region ?_
    refine VL.r (.inl rfl) rfl (by decide) (yr_move rfl rfl) ?_
    refine VL.r (.inl rfl) rfl (by decide) (yr_move rfl rfl) ?_
    refine VL.r (.inl rfl) rfl (by decide) (yr_int rfl rfl rfl (.inl ⟨rfl, wrap_in (by omega)⟩)) ?_
    refine VL.r (.inl rfl) rfl (by decide) (yr_assign rfl rfl) ?_
    refine VL.nil ?_
    refine VE.block_normal ?_
    refine VE.then_wp ?_
    refine V.region ?_
    refine VL.r (.inl rfl) rfl (by decide) (yr_int rfl rfl rfl (.inl ⟨rfl, wrap_in (by omega)⟩)) ?_
    refine VL.r (.inl rfl) rfl (by decide) (yr_move rfl rfl) ?_
    refine VL.nil ?_
    refine VE.round (k + 1, a54, c54) ?_ ?_ ?_ ?_ ?_
    · exact (.cons rfl (.cons (congrArg (fun i => some (Value.int .i64 i)) (by rw [fiK_sum hk2]; omega)) (.cons (congrArg (fun i => some (Value.int .i64 i)) (by omega)) .nil)))
    · exact (.cons rfl (.cons rfl (.cons rfl (.cons rfl .nil))))
    · exact (fun w hw => by
        have h9 : Hp _ [⟨a54, vl (fiL ws (p1, p2, p3) st near k) ++ vl [fnV ws (fiK ws (p1, p2, p3) st near k).1 st near], c54 * 3, 32⟩, ⟨some ⟨b6, 0, none⟩, [.float .f32 ((p1, p2, p3)).1, .float .f32 ((p1, p2, p3)).2.1, .float .f32 ((p1, p2, p3)).2.2], 3, 32⟩] w := hw.pick (by apply Pick.two; all_goals (repeat (first | exact Rem.here | apply Rem.there)))
        dsimp only
        rw [← fiL_snoc, ← fiK_box hk2]
        exact h9)
    · exact ⟨by omega, fun j hj => by rcases Nat.lt_or_ge j k with h | h; exact hI j h; obtain rfl : j = k := (by omega); exact (fiK_ok hk2 hk3 (by assumption)).1, fiK_ok hk2 hk3 (by assumption)⟩
    · (try dsimp only); omega
  replace h4 := ic_lss' h4
  refine V.exit ?_
  refine VE.then_exit ?_
  refine VE.then_exit ?_
  refine VE.block_here ?_
  refine VE.then_wp ?_
  refine V.seq ?_
  refine V.region ?_
  refine VL.r (.inl rfl) rfl (by decide) (yr_move rfl rfl) ?_
  refine VL.r (.inl rfl) rfl (by decide) (yr_move rfl rfl) ?_
  refine VL.r (.inl rfl) rfl (by decide) (yr_assign rfl rfl) ?_
  refine VL.r (.inl rfl) rfl (by decide) (yr_assign rfl rfl) ?_
  refine VL.r (.inl rfl) rfl (by decide) (yr_assign (u := .bool true) rfl rfl) ?_
  refine VL.nil ?_
  refine VE.then_wp ?_
  refine V.ret ?_
  refine ret3 rfl rfl rfl rfl (by nofun) (by nofun) (by nofun) (fun w1 hw => ?_)
  first
    | (have hs : (fiOk ws (p1, p2, p3) st near rn) = true := fi_yes (by assumption) (by assumption)
       have hkr : k = rn.toNat := by omega
       subst hkr
       have hm := fiM_all (ws := ws) (p := (p1, p2, p3)) (st := st) (near := near) hI
       have h9 : Hp _ [⟨a9, vl (fiL ws (p1, p2, p3) st near rn.toNat), c9 * 3, 32⟩] w1 := hw.pick (by apply Pick.one; repeat (first | exact Rem.here | apply Rem.there))
       exact ⟨(a9, c9), by rw [fiV_yes hs hm, fiS_yes hs hm, hs, fiL_length], by rw [fiV_yes hs hm]; exact h9.out1⟩)
    | (have hs : (fiOk ws (p1, p2, p3) st near rn) = true := fi_yes (by assumption) (by assumption)
       have hm := fiM_at (ws := ws) (p := (p1, p2, p3)) (st := st) (near := near) (n := rn.toNat) hI (by omega) (by rw [fiK_succ hk2]; assumption)
       have h9 : Hp _ [⟨a9, vl (fiL ws (p1, p2, p3) st near k), c9 * 3, 32⟩] w1 := hw.pick (by apply Pick.one; repeat (first | exact Rem.here | apply Rem.there))
       exact ⟨(a9, c9), by rw [fiV_yes hs hm, fiS_yes hs hm, hs, fiL_length], by rw [fiV_yes hs hm]; exact h9.out1⟩)
    | (have hs : (fiOk ws (p1, p2, p3) st near rn) = false := by first | exact fi_2 (by assumption) | exact fi_1 (by first | exact fa_1 (by assumption) | assumption)
       exact ⟨(none, 0), by rw [fiV_no hs, fiS_no hs, hs]; rfl, hw.below, by rw [fiV_no hs]; simp [vl, Ent.at], List.pairwise_singleton _ _⟩)
end Go.Proofs.Ytfkblhlkeglilaa

namespace Go.Proofs.Ytfkblhlkeglilaa
open Go.RowKit
set_option linter.unusedVariables false
set_option linter.unusedSimpArgs false
set_option maxRecDepth 20000
theorem sz32_FLine : (Try.prog.info? 32).map (·.size) = some 3 := by kernel_rfl
theorem elt32_FLine : Elt Try.prog 32 [Value.float .f32 0, Value.float .f32 0, Value.float .f32 0] 12 := Elt.mk' (by kernel_rfl) (by decide)
theorem known28_FLine : Known Try.prog 28 := Known.mk' Try.func28 (by kernel_rfl)
theorem zero32_FLine : (Try.prog.info? 32).bind (·.zero) = some (Value.agg #[Value.float .f32 0, Value.float .f32 0, Value.float .f32 0]) := by kernel_rfl
theorem known23_FLine : Known Try.prog 23 := Known.mk' Try.func23 (by kernel_rfl)
theorem known24_FLine : Known Try.prog 24 := Known.mk' Try.func24 (by kernel_rfl)
theorem known20_FLine : Known Try.prog 20 := Known.mk' Try.func20 (by kernel_rfl)
theorem known25_FLine : Known Try.prog 25 := Known.mk' Try.func25 (by kernel_rfl)
theorem mixed_FLine : Try.prog.follows .mixedOrders = true := by kernel_rfl
theorem known26_FLine : Known Try.prog 26 := Known.mk' Try.func26 (by kernel_rfl)
theorem known42_FLine : Known Try.prog 42 := Known.mk' Try.func42 (by kernel_rfl)
theorem known27_FLine : Known Try.prog 27 := Known.mk' Try.func27 (by kernel_rfl)
attribute [local irreducible] fop fcmp fconv sqrt32 fneg segF fieldS fieldI List.getD unit3 dirV dirI midI stepV stepOk dirOk stK lnL lnM lnR flineV flineOk
theorem c_line {w : World} {g : FuncId} {cs : Array Value} {ws : List Wr} {p1 p2 p3 : Nat} {st : Nat} {rn : Int} (hg : Known Try.prog g) (hF : ∀ w', Below w.heap.size w w' → ∀ q : V3, Pure Try.prog g ([vv q] ++ cs.toList.map cn) w' (.tuple #[vv (fieldI ws q), .bool (fin3 q && fin3 (fieldI ws q))])) (hp : fin3 (p1, p2, p3) = true) (hrn : 0 ≤ rn ∧ rn ≤ 63) : New Try.prog 27 [.func (.func g) #[] cs, vv (p1, p2, p3), .float .f32 st, .int .i64 rn] w (fun p : Option Addr × Nat => .slice p.1 (lnR ws (p1, p2, p3) st rn.toNat).length p.2) (fun p => [⟨p.1, vl (lnR ws (p1, p2, p3) st rn.toNat), p.2 * 3, 32⟩]) := by
  refine New.enter Try.func27 rfl Try.ntmps27 (Nat.le_of_ble_eq_true rfl) ?_
  refine V.seq ?_
  refine V.region ?_
  refine VL.new1 (.inl rfl) rfl (by decide) (yn_box rfl rfl (.inr ⟨rfl, rfl⟩)) ?_
  intro b5
  refine VL.r (.inl rfl) rfl (by decide) (yr_assign (u := .slice none 0 0) rfl rfl) ?_
  refine VL.nil ?_
  refine VE.then_wp ?_
  refine V.seq ?_
  refine V.region ?_
  refine VL.q (.inl rfl) rfl (by decide) (yq_loadS rfl Try.underlying32 sz32_FLine rfl zz0 rfl rfl rfl) ?_
  refine VL.new1 (.inl rfl) rfl (by decide) (yn_buildSlice rfl Try.underlying24 elt32_FLine rfl (by decide) (.cons rfl .nil) (by first | (simp; done) | (simp [vv]; done)) rfl rfl) ?_
  intro b13
  refine VL.r (.inl rfl) rfl (by decide) (yr_assign rfl rfl) ?_
  refine VL.nil ?_
  refine VE.then_wp ?_
  refine V.seq ?_
  refine V.seq ?_
  refine V.region ?_
  refine VL.r (.inl rfl) rfl (by decide) (yr_move rfl rfl) ?_
  refine VL.r (.inl rfl) rfl (by decide) (yr_move (u := .int .i64 0) rfl rfl) ?_
  refine VL.nil ?_
  refine VE.then_wp ?_
  refine V.block ?_
  refine V.loopc (G := Nat × (Option Addr) × Nat) [(0, _), (2, _), (14, _)] (fun ⟨k, a9, c9⟩ => k ≤ rn.toNat ∧ (∀ j, j < k → (stK ws (p1, p2, p3) st (j + 1)).2 = true) ∧ (stK ws (p1, p2, p3) st k).2 = true ∧ fin3 (stK ws (p1, p2, p3) st k).1 = true) (fun ⟨k, a9, c9⟩ => [⟨a9, vl (lnL ws (p1, p2, p3) st k), c9 * 3, 32⟩, ⟨some ⟨b5, 0, none⟩, [.float .f32 ((p1, p2, p3)).1, .float .f32 ((p1, p2, p3)).2.1, .float .f32 ((p1, p2, p3)).2.2], 3, 32⟩]) (fun ⟨k, a9, c9⟩ => [(9, .slice a9 (k + 1) c9), (15, .int .i64 (k : Int))]) (fun ⟨k, a9, c9⟩ => rn.toNat - k) (0, some ⟨b13, 0, none⟩, 1) (.cons rfl (.cons rfl (.cons rfl .nil))) (.cons rfl (.cons (congrArg (fun i => some (Value.int .i64 i)) (by omega)) .nil)) ?_ ?_ ?_
  · exact (fun w hw => by dsimp only; rw [lnL_zero]; exact hw)
  · exact (by dsimp only; rw [stK_zero]; exact ⟨by omega, fun j h => by omega, rfl, hp⟩)
  rintro ⟨k, a9, c9⟩ ⟨hk, hI, hk2, hk3⟩
  show V _ _ _ [⟨a9, vl (lnL ws (p1, p2, p3) st k), c9 * 3, 32⟩, ⟨some ⟨b5, 0, none⟩, [.float .f32 ((p1, p2, p3)).1, .float .f32 ((p1, p2, p3)).2.1, .float .f32 ((p1, p2, p3)).2.2], 3, 32⟩] ([(9, .slice a9 (k + 1) c9), (15, .int .i64 (k : Int))] ++ [(0, _), (2, _), (14, _)]) _ _
  refine V.seq ?_
  refine V.region ?_
  refine VL.r (.inl rfl) rfl (by decide) (yr_icmp rfl (.inr (.inr (.inl rfl))) rfl rfl) ?_
  refine VL.nil ?_
  refine VE.then_wp ?_
  refine V.seq ?_
  refine V.cond rfl (fun h1 => ?_) (fun h1 => ?_)
  · skip
    replace h1 := ic_lss h1
    refine V.skip ?_
    refine VE.then_wp ?_
    refine V.seq ?_
    refine V.block ?_
    refine V.seq ?_
    refine V.region ?_
    refine VL.r (.inl rfl) rfl (by decide) (yr_move rfl rfl) ?_
    refine VL.r (.inl rfl) rfl (by decide) (yr_move rfl rfl) ?_
    refine VL.r (.inl rfl) rfl (by decide) (yr_move rfl rfl) ?_
    refine VL.r (.inl rfl) rfl (by decide) (yr_len rfl Try.underlying24 rfl) ?_
    refine VL.r (.inl rfl) rfl (by decide) (yr_int rfl rfl rfl (.inr (.inl ⟨rfl, wrap_in (by omega)⟩))) ?_
    refine VL.q (.inl rfl) rfl (by decide) (yq_idxN (k := k) rfl Try.underlying24 sz32_FLine rfl rfl zz0 zz6 (by rw [vl_length, lnL_length]) (by decide) (by omega)) ?_
    refine VL.q (.inl rfl) rfl (by decide) (show YQ _ _ _ _ _ (vv (stK ws (p1, p2, p3) st k).1) from by rw [← lnL_get (ws := ws) (p := (p1, p2, p3)) (st := st) (k := k) (i := k) (by omega)]; exact yq_loadV rfl Try.underlying32 sz32_FLine rfl zz0 (by rw [lnL_length]; omega)) ?_
    refine VL.r (.inl rfl) rfl (by decide) (yr_move rfl rfl) ?_
    refine VL.q (.inl rfl) rfl (by decide) (yq_callf rfl known28_FLine (.cons rfl (.cons rfl (.cons rfl .nil))) (fun w hw => (c_step (p1 := (stK ws (p1, p2, p3) st k).1.1) (p2 := (stK ws (p1, p2, p3) st k).1.2.1) (p3 := (stK ws (p1, p2, p3) st k).1.2.2) (st := st) hg (fun w1 hb => hF w1 (hw.below.trans (hb.mono hw.below.size)))))) ?_
    refine VL.r (.inl rfl) rfl (by decide) (yr_move rfl rfl) ?_
    refine VL.r (.inl rfl) rfl (by decide) (yr_extract rfl rfl rfl (by nofun)) ?_
    refine VL.r (.inl rfl) rfl (by decide) (yr_extract rfl rfl rfl (by nofun)) ?_
    refine VL.new1 (.inl rfl) rfl (by decide) (yn_alloc rfl zero32_FLine rfl) ?_
    intro b10
    refine VL.s (.inl rfl) rfl (yc_store rfl sz32_FLine rfl rfl zz3 (.inr ⟨rfl, rfl⟩) rfl zz4 (by decide) rfl) ?_
    rintro ⟨⟩
    refine VL.r (.inl rfl) rfl (by decide) (yr_assign rfl rfl) ?_
    refine VL.nil ?_
    refine VE.then_wp ?_
    refine V.seq ?_
    refine V.seq ?_
    refine V.region ?_
    refine VL.r (.inl rfl) rfl (by decide) (yr_move rfl rfl) ?_
    refine VL.r (.inl rfl) rfl (by decide) (yr_not rfl rfl) ?_
    refine VL.nil ?_
    refine VE.then_wp ?_
    refine V.cond rfl (fun h2 => ?_) (fun h2 => ?_)
    · skip
      replace h2 := bnot_t h2
      refine V.exit ?_
      refine VE.then_exit ?_
      refine VE.block_on rfl ?_
      refine VE.then_exit ?_
      refine VE.then_exit ?_
      refine VE.block_here ?_
      refine VE.then_wp ?_
      refine V.seq ?_
      refine V.region ?_
      refine VL.r (.inl rfl) rfl (by decide) (yr_move rfl rfl) ?_
      refine VL.r (.inl rfl) rfl (by decide) (yr_assign rfl rfl) ?_
      refine VL.nil ?_
      refine VE.then_wp ?_
      refine V.ret ?_
      refine ret1 rfl rfl (fun w1 hw => ?_)
      first
        | (obtain rfl : k = rn.toNat := by omega
           have hr9 := lnR_all (ws := ws) (p := (p1, p2, p3)) (st := st) hI
           exact ⟨(a9, c9), by rw [hr9, lnL_length], by rw [hr9]; exact hw.out1⟩)
        | (have hr9 := lnR_at (ws := ws) (p := (p1, p2, p3)) (st := st) (n := rn.toNat) hI (by omega) (by rw [stK_succ hk2]; assumption)
           exact ⟨(a9, c9), by rw [hr9, lnL_length], by rw [hr9]; exact (hw.sub (List.sublist_cons_self _ _)).out1⟩)
    replace h2 := bnot_f h2
    refine V.skip ?_
    refine VE.then_wp ?_
    refine V.region ?_
    refine VL.r (.inl rfl) rfl (by decide) (yr_move rfl rfl) ?_
    refine VL.q (.inl rfl) rfl (by decide) (yq_loadS rfl Try.underlying32 sz32_FLine rfl zz0 rfl rfl rfl) ?_
    refine VL.new1 (.inl rfl) rfl (by decide) (yn_buildSlice rfl Try.underlying24 elt32_FLine rfl (by decide) (.cons rfl .nil) (by first | (simp; done) | (simp [vv]; done)) rfl rfl) ?_
    intro b33
    refine VL.c (.inl rfl) rfl (by decide) (yc_appendz 3 rfl rfl Try.underlying24 elt32_FLine rfl rfl zz3 zz0 rfl (by rw [vl_length, lnL_length]) rfl (vl_scal _) rfl (by omega) (by omega)) ?_
    rintro ⟨a34, c34⟩
    refine VL.r (.inl rfl) rfl (by decide) (yr_assign rfl rfl) ?_
    refine VL.nil ?_
    refine VE.block_normal ?_
    refine VE.then_wp ?_
    refine V.region ?_
    refine VL.r (.inl rfl) rfl (by decide) (yr_int rfl rfl rfl (.inl ⟨rfl, wrap_in (by omega)⟩)) ?_
    refine VL.r (.inl rfl) rfl (by decide) (yr_move rfl rfl) ?_
    refine VL.nil ?_
    refine VE.round (k + 1, a34, c34) ?_ ?_ ?_ ?_ ?_
    · exact (.cons rfl (.cons (congrArg (fun i => some (Value.int .i64 i)) (by omega)) .nil))
    · exact (.cons rfl (.cons rfl (.cons rfl .nil)))
    · exact (fun w hw => by have h9 := hw.sub ((List.sublist_cons_self _ _).trans (List.sublist_cons_self _ _)); have e9 := stK_box (ws := ws) (p := (p1, p2, p3)) (h := st) (k := k) hk2; dsimp only; rw [← lnL_snoc, ← e9]; exact h9)
    · exact ⟨by omega, fun j hj => by rcases Nat.lt_or_ge j k with h | h; exact hI j h; obtain rfl : j = k := (by omega); exact (stK_ok hk2 (by assumption)).1, stK_ok hk2 (by assumption)⟩
    · (try dsimp only); omega
  replace h1 := ic_lss' h1
  refine V.exit ?_
  refine VE.then_exit ?_
  refine VE.then_exit ?_
  refine VE.block_here ?_
  refine VE.then_wp ?_
  refine V.seq ?_
  refine V.region ?_
  refine VL.r (.inl rfl) rfl (by decide) (yr_move rfl rfl) ?_
  refine VL.r (.inl rfl) rfl (by decide) (yr_assign rfl rfl) ?_
  refine VL.nil ?_
  refine VE.then_wp ?_
  refine V.ret ?_
  refine ret1 rfl rfl (fun w1 hw => ?_)
  first
    | (obtain rfl : k = rn.toNat := by omega
       have hr9 := lnR_all (ws := ws) (p := (p1, p2, p3)) (st := st) hI
       exact ⟨(a9, c9), by rw [hr9, lnL_length], by rw [hr9]; exact hw.out1⟩)
    | (have hr9 := lnR_at (ws := ws) (p := (p1, p2, p3)) (st := st) (n := rn.toNat) hI (by omega) (by rw [stK_succ hk2]; assumption)
       exact ⟨(a9, c9), by rw [hr9, lnL_length], by rw [hr9]; exact (hw.sub (List.sublist_cons_self _ _)).out1⟩)
theorem c_implFL {w : World} {a : Option Addr} {c : Nat} {f : Nat → Option Addr × Nat} {ws : List Wr} {p1 p2 p3 : Nat} {st : Nat} {rn : Int} (hA : Cl w a (whd f ws)) (hR : WRws w f ws) (hn : wbulk ws ≤ 1050000) : New Try.prog 8 [.slice a ws.length c, vv (p1, p2, p3), .float .f32 st, .int .i64 rn] w (fun p : Option Addr × Nat => .tuple #[.slice p.1 (flineV ws (p1, p2, p3) st rn).length p.2, .bool (flineOk ws (p1, p2, p3) st rn)]) (fun p => [⟨p.1, vl (flineV ws (p1, p2, p3) st rn), p.2 * 3, 32⟩]) := by
  refine New.enter Try.func8 rfl Try.ntmps8 (Nat.le_of_ble_eq_true rfl) ?_
  have hwl : ws.length ≤ wbulk ws := by unfold wbulk; omega
  have hrw : ∀ k, k < ws.length → (ws.getD k zw).1.length ≤ 1050000 := fun k hk => by have := wbulk_row hk; omega
  refine V.seq ?_
  refine V.region ?_
  refine VL.new1 (.inl rfl) rfl (by decide) (yn_box rfl rfl (.inr ⟨rfl, rfl⟩)) ?_
  intro b5
  refine VL.r (.inl rfl) rfl (by decide) (yr_assign (u := .slice none 0 0) rfl rfl) ?_
  refine VL.r (.inl rfl) rfl (by decide) (yr_assign (u := .bool false) rfl rfl) ?_
  refine VL.nil ?_
  refine VE.then_wp ?_
  refine V.seq ?_
  refine V.seq ?_
  refine V.region ?_
  refine VL.r (.inl rfl) rfl (by decide) (yr_move rfl rfl) ?_
  refine VL.q (.inl rfl) rfl (by decide) (yq_callf rfl known23_FLine (.cons rfl .nil) (fun w hw => (c_implAre zz2 (by first | exact WRws.root (by assumption) hw | exact WRws.own (by repeat (first | exact WRowsIn.here | exact WRowsIn.last | apply WRowsIn.there | apply WRowsIn.thereS)) hw) (by omega)))) ?_
  refine VL.r (.inl rfl) rfl (by decide) (yr_not rfl rfl) ?_
  refine VL.r (.inl rfl) rfl (by decide) (yr_move rfl rfl) ?_
  refine VX.split 13 _ rfl (fun h1 => ?_) (fun h1 => ?_)
  · skip
    replace h1 := bnot_t h1
    refine VL.no rfl rfl rfl rfl rfl (by decide) ?_
    refine VL.no rfl rfl rfl rfl rfl (by decide) ?_
    refine VL.no rfl rfl rfl rfl rfl (by decide) ?_
    refine VL.r (.inl rfl) rfl (by decide) (yr_pick_t (u := .bool true) rfl rfl rfl) ?_
    refine VL.r (.inl rfl) rfl (by decide) (yr_move rfl rfl) ?_
    refine VL.no rfl rfl rfl rfl rfl (by decide) ?_
    refine VL.no rfl rfl rfl rfl rfl (by decide) ?_
    refine VL.no rfl rfl rfl rfl rfl (by decide) ?_
    refine VL.r (.inl rfl) rfl (by decide) (yr_pick_t (u := .bool true) rfl rfl rfl) ?_
    refine VL.r (.inl rfl) rfl (by decide) (yr_move rfl rfl) ?_
    refine VL.no rfl rfl rfl rfl rfl (by decide) ?_
    refine VL.no rfl rfl rfl rfl rfl (by decide) ?_
    refine VL.no rfl rfl rfl rfl rfl (by decide) ?_
    refine VL.r (.inl rfl) rfl (by decide) (yr_pick_t (u := .bool true) rfl rfl rfl) ?_
    refine VL.nil ?_
    refine VE.then_wp ?_
    refine V.condT rfl ?_
    refine V.seq ?_
    refine V.region ?_
    refine VL.r (.inl rfl) rfl (by decide) (yr_assign (u := .slice none 0 0) rfl rfl) ?_
    refine VL.r (.inl rfl) rfl (by decide) (yr_assign (u := .bool false) rfl rfl) ?_
    refine VL.nil ?_
    refine VE.then_wp ?_
    refine V.ret ?_
    refine VE.then_ret ?_
    refine ret2 rfl rfl rfl (by nofun) (by nofun) (fun w1 hw => ?_)
    first
      | (have hs : (flineOk ws (p1, p2, p3) st rn) = true := fline_yes (by assumption) (by assumption) (by assumption) (by assumption)
         exact ⟨(a33, c33), by rw [flineV_yes hs, hs], by rw [flineV_yes hs]; exact hw.outs (((List.nil_sublist _)).cons_cons _)⟩)
      | (have hs : (flineOk ws (p1, p2, p3) st rn) = false := by first | exact fline_1 (by assumption) | exact fline_2 (by assumption) | exact fline_3 (by assumption) | exact fline_4 (by assumption)
         exact ⟨(none, 0), by rw [flineV_no hs, hs]; rfl, hw.below, by rw [flineV_no hs]; simp [vl, Ent.at], List.pairwise_singleton _ _⟩)
  replace h1 := bnot_f h1
  refine VL.q (.inr ⟨_, _, _, rfl, rfl, rfl⟩) rfl (by decide) (yq_loadS rfl Try.underlying32 sz32_FLine rfl zz0 rfl rfl rfl) ?_
  refine VL.q (.inr ⟨_, _, _, rfl, rfl, rfl⟩) rfl (by decide) (yq_callf rfl known24_FLine (.cons rfl .nil) (fun w hw => c_fin3)) ?_
  refine VL.r (.inr ⟨_, _, _, rfl, rfl, rfl⟩) rfl (by decide) (yr_not rfl rfl) ?_
  refine VL.r (.inl rfl) rfl (by decide) (yr_pick_f rfl rfl rfl) ?_
  refine VL.r (.inl rfl) rfl (by decide) (yr_move rfl rfl) ?_
  refine VX.split 18 _ rfl (fun h3 => ?_) (fun h3 => ?_)
  · skip
    replace h3 := bnot_t h3
    refine VL.no rfl rfl rfl rfl rfl (by decide) ?_
    refine VL.no rfl rfl rfl rfl rfl (by decide) ?_
    refine VL.no rfl rfl rfl rfl rfl (by decide) ?_
    refine VL.r (.inl rfl) rfl (by decide) (yr_pick_t (u := .bool true) rfl rfl rfl) ?_
    refine VL.r (.inl rfl) rfl (by decide) (yr_move rfl rfl) ?_
    refine VL.no rfl rfl rfl rfl rfl (by decide) ?_
    refine VL.no rfl rfl rfl rfl rfl (by decide) ?_
    refine VL.no rfl rfl rfl rfl rfl (by decide) ?_
    refine VL.r (.inl rfl) rfl (by decide) (yr_pick_t (u := .bool true) rfl rfl rfl) ?_
    refine VL.nil ?_
    refine VE.then_wp ?_
    refine V.condT rfl ?_
    refine V.seq ?_
    refine V.region ?_
    refine VL.r (.inl rfl) rfl (by decide) (yr_assign (u := .slice none 0 0) rfl rfl) ?_
    refine VL.r (.inl rfl) rfl (by decide) (yr_assign (u := .bool false) rfl rfl) ?_
    refine VL.nil ?_
    refine VE.then_wp ?_
    refine V.ret ?_
    refine VE.then_ret ?_
    refine ret2 rfl rfl rfl (by nofun) (by nofun) (fun w1 hw => ?_)
    first
      | (have hs : (flineOk ws (p1, p2, p3) st rn) = true := fline_yes (by assumption) (by assumption) (by assumption) (by assumption)
         exact ⟨(a33, c33), by rw [flineV_yes hs, hs], by rw [flineV_yes hs]; exact hw.outs (((List.nil_sublist _)).cons_cons _)⟩)
      | (have hs : (flineOk ws (p1, p2, p3) st rn) = false := by first | exact fline_1 (by assumption) | exact fline_2 (by assumption) | exact fline_3 (by assumption) | exact fline_4 (by assumption)
         exact ⟨(none, 0), by rw [flineV_no hs, hs]; rfl, hw.below, by rw [flineV_no hs]; simp [vl, Ent.at], List.pairwise_singleton _ _⟩)
  replace h3 := bnot_f h3
  refine VL.r (.inr ⟨_, _, _, rfl, rfl, rfl⟩) rfl (by decide) (yr_move rfl rfl) ?_
  refine VL.q (.inr ⟨_, _, _, rfl, rfl, rfl⟩) rfl (by decide) (yq_callf rfl known20_FLine (.cons rfl .nil) (fun w hw => c_IsFinite _)) ?_
  refine VL.r (.inr ⟨_, _, _, rfl, rfl, rfl⟩) rfl (by decide) (yr_not rfl rfl) ?_
  refine VL.r (.inl rfl) rfl (by decide) (yr_pick_f rfl rfl rfl) ?_
  refine VL.r (.inl rfl) rfl (by decide) (yr_move rfl rfl) ?_
  refine VX.split 23 _ rfl (fun h5 => ?_) (fun h5 => ?_)
  · skip
    replace h5 := bnot_t h5
    refine VL.no rfl rfl rfl rfl rfl (by decide) ?_
    refine VL.no rfl rfl rfl rfl rfl (by decide) ?_
    refine VL.no rfl rfl rfl rfl rfl (by decide) ?_
    refine VL.r (.inl rfl) rfl (by decide) (yr_pick_t (u := .bool true) rfl rfl rfl) ?_
    refine VL.nil ?_
    refine VE.then_wp ?_
    refine V.condT rfl ?_
    refine V.seq ?_
    refine V.region ?_
    refine VL.r (.inl rfl) rfl (by decide) (yr_assign (u := .slice none 0 0) rfl rfl) ?_
    refine VL.r (.inl rfl) rfl (by decide) (yr_assign (u := .bool false) rfl rfl) ?_
    refine VL.nil ?_
    refine VE.then_wp ?_
    refine V.ret ?_
    refine VE.then_ret ?_
    refine ret2 rfl rfl rfl (by nofun) (by nofun) (fun w1 hw => ?_)
    first
      | (have hs : (flineOk ws (p1, p2, p3) st rn) = true := fline_yes (by assumption) (by assumption) (by assumption) (by assumption)
         exact ⟨(a33, c33), by rw [flineV_yes hs, hs], by rw [flineV_yes hs]; exact hw.outs (((List.nil_sublist _)).cons_cons _)⟩)
      | (have hs : (flineOk ws (p1, p2, p3) st rn) = false := by first | exact fline_1 (by assumption) | exact fline_2 (by assumption) | exact fline_3 (by assumption) | exact fline_4 (by assumption)
         exact ⟨(none, 0), by rw [flineV_no hs, hs]; rfl, hw.below, by rw [flineV_no hs]; simp [vl, Ent.at], List.pairwise_singleton _ _⟩)
  replace h5 := bnot_f h5
  refine VL.r (.inr ⟨_, _, _, rfl, rfl, rfl⟩) rfl (by decide) (yr_move rfl rfl) ?_
  refine VL.q (.inr ⟨_, _, _, rfl, rfl, rfl⟩) rfl (by decide) (yq_callf rfl known25_FLine (.cons rfl .nil) (fun w hw => c_isLC)) ?_
  refine VL.r (.inr ⟨_, _, _, rfl, rfl, rfl⟩) rfl (by decide) (yr_not rfl rfl) ?_
  refine VL.r (.inl rfl) rfl (by decide) (yr_pick_f rfl rfl rfl) ?_
  refine VL.nil ?_
  refine VE.then_wp ?_
  refine V.cond rfl (fun h7 => ?_) (fun h7 => ?_)
  · skip
    replace h7 := bnot_t h7
    refine V.seq ?_
    refine V.region ?_
    refine VL.r (.inl rfl) rfl (by decide) (yr_assign (u := .slice none 0 0) rfl rfl) ?_
    refine VL.r (.inl rfl) rfl (by decide) (yr_assign (u := .bool false) rfl rfl) ?_
    refine VL.nil ?_
    refine VE.then_wp ?_
    refine V.ret ?_
    refine VE.then_ret ?_
    refine ret2 rfl rfl rfl (by nofun) (by nofun) (fun w1 hw => ?_)
    first
      | (have hs : (flineOk ws (p1, p2, p3) st rn) = true := fline_yes (by assumption) (by assumption) (by assumption) (by assumption)
         exact ⟨(a33, c33), by rw [flineV_yes hs, hs], by rw [flineV_yes hs]; exact hw.outs (((List.nil_sublist _)).cons_cons _)⟩)
      | (have hs : (flineOk ws (p1, p2, p3) st rn) = false := by first | exact fline_1 (by assumption) | exact fline_2 (by assumption) | exact fline_3 (by assumption) | exact fline_4 (by assumption)
         exact ⟨(none, 0), by rw [flineV_no hs, hs]; rfl, hw.below, by rw [flineV_no hs]; simp [vl, Ent.at], List.pairwise_singleton _ _⟩)
  replace h7 := bnot_f h7
  refine V.skip ?_
  refine VE.then_wp ?_
  refine V.seq ?_
  refine V.draw [(0, 0), (2, 0), (3, 0), (4, 0), (1, 1), (5, 1), (6, 0), (7, 0)] mixed_FLine (by kernel_rfl) (by intro j o hj; simp at hj) ?_
  refine SW.r rfl (.inl rfl) rfl (by decide) (yr_move rfl rfl) ?_
  refine SW.q rfl (.inl rfl) rfl (by decide) (yq_loadS rfl Try.underlying32 sz32_FLine rfl zz0 rfl rfl rfl) ?_
  refine SW.r rfl (.inl rfl) rfl (by decide) (yr_move rfl rfl) ?_
  refine SW.r rfl (.inl rfl) rfl (by decide) (yr_move rfl rfl) ?_
  refine SW.new1 rfl (.inl rfl) rfl (by decide) (yn_callf rfl known26_FLine (.cons rfl .nil) (fun w hw => c_fieldOf)) ?_
  intro b29
  refine SW.new1 rfl (.inl rfl) rfl (by decide) (yn_callf rfl known27_FLine (.cons rfl (.cons rfl (.cons rfl (.cons rfl .nil)))) (fun w hw => (c_line known42_FLine (fun w1 hb q => c_fieldOf1 (q := some ⟨b29, 0, none⟩) (p1 := q.1) (p2 := q.2.1) (p3 := q.2.2) (Cl.below (Sees.own (by repeat (first | exact List.mem_cons_self | apply List.mem_cons_of_mem | apply List.mem_append_right)) w hw) hb) ((Sees.root hA w hw).below hb) ((hR.root hw).below hb) hn (by assumption)) (by assumption) (of_decide_eq_true (by assumption))))) ?_
  rintro ⟨a33, c33⟩
  refine SW.r rfl (.inl rfl) rfl (by decide) (yr_assign rfl rfl) ?_
  refine SW.r rfl (.inl rfl) rfl (by decide) (yr_assign (u := .bool true) rfl rfl) ?_
  refine SW.done ?_
  refine VE.then_wp ?_
  refine V.ret ?_
  refine ret2 rfl rfl rfl (by nofun) (by nofun) (fun w1 hw => ?_)
  first
    | (have hs : (flineOk ws (p1, p2, p3) st rn) = true := fline_yes (by assumption) (by assumption) (by assumption) (by assumption)
       exact ⟨(a33, c33), by rw [flineV_yes hs, hs], by rw [flineV_yes hs]; exact hw.outs (((List.nil_sublist _)).cons_cons _)⟩)
    | (have hs : (flineOk ws (p1, p2, p3) st rn) = false := by first | exact fline_1 (by assumption) | exact fline_2 (by assumption) | exact fline_3 (by assumption) | exact fline_4 (by assumption)
       exact ⟨(none, 0), by rw [flineV_no hs, hs]; rfl, hw.below, by rw [flineV_no hs]; simp [vl, Ent.at], List.pairwise_singleton _ _⟩)
end Go.Proofs.Ytfkblhlkeglilaa

namespace Go.Proofs.Ytfkblhlkeglilaa
open Go.RowKit
def mk0 (k0 : Int) (ws : List Wr) (i : Nat) : Int := k0 + ((wsum ws i * 3 + i * 2 : Nat) : Int)
def mrents (t : TypeId) (k0 : Int) (f : Nat → Option Addr × Nat) (ws : List Wr) (k : Nat) : List Ent := (List.range k).map fun i => ⟨(f i).1, fl (marks (mk0 k0 ws i) ((ws.getD i zw).1.length * 3)), (f i).2 * 3, t⟩
section
variable {t : TypeId} {k0 : Int} {f : Nat → Option Addr × Nat} {ws : List Wr} {k i : Nat}
theorem mrents_mem (h : i < k) : (⟨(f i).1, fl (marks (mk0 k0 ws i) ((ws.getD i zw).1.length * 3)), (f i).2 * 3, t⟩ : Ent) ∈ mrents t k0 f ws k := List.mem_map.2 ⟨i, by simpa using h, rfl⟩
end
inductive MRowsIn : List Ent → TypeId → Int → (Nat → Option Addr × Nat) → List Wr → Prop
  | here {t : TypeId} {k0 : Int} {f : Nat → Option Addr × Nat} {ws : List Wr} {O : List Ent} : MRowsIn (mrents t k0 f ws ws.length ++ O) t k0 f ws
  | last {t : TypeId} {k0 : Int} {f : Nat → Option Addr × Nat} {ws : List Wr} : MRowsIn (mrents t k0 f ws ws.length) t k0 f ws
  | there {t : TypeId} {k0 : Int} {f : Nat → Option Addr × Nat} {ws : List Wr} {e : Ent} {O : List Ent} : MRowsIn O t k0 f ws → MRowsIn (e :: O) t k0 f ws
  | thereS {t : TypeId} {k0 : Int} {f : Nat → Option Addr × Nat} {ws : List Wr} {S O : List Ent} : MRowsIn O t k0 f ws → MRowsIn (S ++ O) t k0 f ws
theorem MRowsIn.mem {O : List Ent} {t : TypeId} {k0 : Int} {f : Nat → Option Addr × Nat} {ws : List Wr} (h : MRowsIn O t k0 f ws) : ∀ i, i < ws.length → (⟨(f i).1, fl (marks (mk0 k0 ws i) ((ws.getD i zw).1.length * 3)), (f i).2 * 3, t⟩ : Ent) ∈ O := by
  induction h with
  | here => exact fun i hi => List.mem_append_left _ (mrents_mem hi)
  | last => exact fun i hi => mrents_mem hi
  | there _ ih => exact fun i hi => List.mem_cons_of_mem _ (ih i hi)
  | thereS _ ih => exact fun i hi => List.mem_append_right _ (ih i hi)
end Go.Proofs.Ytfkblhlkeglilaa

namespace Go.Proofs.Ytfkblhlkeglilaa
open Go.RowKit
theorem Hp.nil {w0 w : World} {O : List Ent} (h : Hp w0 O w) (t : TypeId) : Hp w0 (⟨none, [], 0, t⟩ :: O) w :=
  h.new (Below.refl _ _) (.inl ⟨rfl, rfl⟩)
section
variable {xss : List (List Nat)} {ws gs x : List Nat} {most unit : Nat} {rn : Int}
end
section
variable {xss : List (List Nat)} {ws gs x : List Nat} {most unit : Nat} {rn : Int}
end
end Go.Proofs.Ytfkblhlkeglilaa

namespace Go.Proofs.Ytfkblhlkeglilaa
open Go.RowKit
set_option linter.unusedVariables false
set_option linter.unusedSimpArgs false
set_option maxRecDepth 20000
theorem zero27_SetC : (Try.prog.info? 27).bind (·.zero) = some (Value.agg #[Value.slice none 0 0, Value.bool false, Value.float .f32 0]) := by kernel_rfl
theorem sz27_SetC : (Try.prog.info? 27).map (·.size) = some 3 := by kernel_rfl
theorem known39_SetC : Known Try.prog 39 := Known.mk' Try.func39 (by kernel_rfl)
attribute [local irreducible] fop fcmp fconv sqrt32 fneg segF List.getD
theorem c_ifWire {w : World} {a : Option Addr} {c : Nat} {ps : List V3} {cl : Bool} {cur : Nat} (hA : Cl w a (vl ps)) (hn : ps.length ≤ 1050000) (hok : wireOk (ps, cl, cur) = true) : Pure Try.prog 22 [.agg #[.slice a ps.length c, .bool cl, .float .f32 cur]] w (.tuple #[.agg #[.slice a ps.length c, .bool cl, .float .f32 cur], .bool true]) := by
  refine Pure.enter Try.func22 rfl Try.ntmps22 (Nat.le_of_ble_eq_true rfl) ?_
  refine V.seq ?_
  refine V.region ?_
  refine VL.new1 (.inl rfl) rfl (by decide) (yn_box rfl rfl (.inr ⟨rfl, rfl⟩)) ?_
  intro b1
  refine VL.new1 (.inl rfl) rfl (by decide) (yn_alloc rfl zero27_SetC rfl) ?_
  intro b2
  refine VL.r (.inl rfl) rfl (by decide) (yr_assign (u := .bool false) rfl rfl) ?_
  refine VL.nil ?_
  refine VE.then_wp ?_
  refine V.seq ?_
  refine V.seq ?_
  refine V.region ?_
  refine VL.q (.inl rfl) rfl (by decide) (yq_loadS rfl Try.underlying27 sz27_SetC rfl zz0 rfl rfl rfl) ?_
  refine VL.q (.inl rfl) rfl (by decide) (yq_callf rfl known39_SetC (.cons rfl .nil) (fun w hw => (c_implWire zz2 (by omega)))) ?_
  refine VL.r (.inl rfl) rfl (by decide) (yr_not rfl rfl) ?_
  refine VL.nil ?_
  refine VE.then_wp ?_
  refine V.cond rfl (fun h1 => ?_) (fun h1 => ?_)
  · skip
    replace h1 := bnot_t h1
    (rw [hok] at h1; cases h1)
  replace h1 := bnot_f h1
  refine V.skip ?_
  refine VE.then_wp ?_
  refine V.seq ?_
  refine V.region ?_
  refine VL.q (.inl rfl) rfl (by decide) (yq_loadS rfl Try.underlying27 sz27_SetC rfl zz0 rfl rfl rfl) ?_
  refine VL.s (.inl rfl) rfl (yc_store rfl sz27_SetC rfl rfl zz3 (.inr ⟨rfl, rfl⟩) rfl zz4 (by decide) rfl) ?_
  rintro ⟨⟩
  refine VL.r (.inl rfl) rfl (by decide) (yr_assign (u := .bool true) rfl rfl) ?_
  refine VL.nil ?_
  refine VE.then_wp ?_
  refine V.ret ?_
  refine retN rfl (.cons (rv_cellS rfl Try.underlying27 sz27_SetC zz0 rfl rfl rfl) (.cons (rv_tmp rfl (by nofun)) .nil)) (by nofun) (fun w1 hw => ?_)
  exact ⟨rfl, hw.below⟩
end Go.Proofs.Ytfkblhlkeglilaa

namespace Go.Proofs.Ytfkblhlkeglilaa
open Go.RowKit
set_option linter.unusedVariables false
set_option linter.unusedSimpArgs false
set_option maxRecDepth 20000
theorem ext52_Worst : ExtF Try.prog 52 Extern.MathFloatBits.float64bits := ⟨_, Try.func52, by kernel_rfl, by kernel_rfl, by kernel_rfl, by kernel_rfl⟩
theorem ext51_Worst : ExtF Try.prog 51 Extern.MathFloatBits.float64frombits := ⟨_, Try.func51, by kernel_rfl, by kernel_rfl, by kernel_rfl, by kernel_rfl⟩
theorem c_abs {w : World} (x : Nat) : Pure Try.prog 38 [.float .f64 x] w (.float .f64 (fabs .f64 x)) := by
  refine Pure.enter Try.func38 rfl Try.ntmps38 (Nat.le_of_ble_eq_true rfl) ?_
  refine V.seq ?_
  refine V.region ?_
  refine VL.r (.inl rfl) rfl (by decide) (yr_assign (u := .float .f64 0) rfl rfl) ?_
  refine VL.nil ?_
  refine VE.then_wp ?_
  refine V.seq ?_
  refine V.region ?_
  refine VL.r (.inl rfl) rfl (by decide) (yr_move rfl rfl) ?_
  refine VL.new (.inl rfl) rfl (by decide) (extN rfl ext52_Worst (.cons rfl .nil) (fun vs w h => ext_bitsN h)) ?_
  rintro ⟨b4, hb4⟩
  refine VL.r (.inl rfl) rfl (by decide) (yr_andNot63 rfl rfl rfl) ?_
  refine VL.q (.inl rfl) rfl (by decide) (yq_ext rfl ext51_Worst (.cons rfl .nil) (fun vs w h => ext_from64 vs w h)) ?_
  refine VL.r (.inl rfl) rfl (by decide) (yr_assign rfl rfl) ?_
  refine VL.nil ?_
  refine VE.then_wp ?_
  refine V.ret ?_
  refine ret1 rfl rfl (fun w1 hw => ?_)
  exact ⟨congrArg (Value.float .f64) (by rw [cb_abs64, hb4]), hw.below⟩
end Go.Proofs.Ytfkblhlkeglilaa

namespace Go.Proofs.Ytfkblhlkeglilaa
namespace Mt
set_option maxRecDepth 100000
theorem and_is {a b : Bool} (h : and a b = true) : a = true ∧ b = true := by cases a <;> cases b <;> simp_all
theorem ble_is {a b : Nat} (h : Nat.ble a b = true) : a ≤ b := Nat.le_of_ble_eq_true h
/-- A corner that was looked at. -/
structure Vt (x y z : Int) (e : Nat) (a b : Int) (h l : Nat) : Prop where
  ex : ∃ s, s * s ≤ dR x y z a b ∧ dR x y z a b ≤ (s + 1) * (s + 1) ∧ h = hiV e s ∧ l = loV e s
  h9 : h ≤ 16000000000
  l0 : 34000000 ≤ l
theorem vtx_is {x y z : Int} {e : Nat} {a b : Int} {g : Nat} {k : Nat → Nat → Nat → Bool} (h : vtx x y z e a b g k = true) : ∃ s hh l, Vt x y z e a b hh l ∧ k s hh l = true := by
  unfold vtx at h
  simp only [force_is] at h
  have h : rt5 (dR x y z a b) (Nat.add (Nat.add (Int.natAbs (Int.sub x a)) (Int.natAbs (Int.sub y b))) (Int.natAbs z)) (fun s => and (Nat.ble (Nat.mul s s) (dR x y z a b)) (and (Nat.ble (dR x y z a b) (Nat.mul (Nat.add s 1) (Nat.add s 1)))
      (and (Nat.ble (hiV e s) 16000000000) (and (Nat.ble 34000000 (loV e s)) (k 0 (hiV e s) (loV e s)))))) = true := h
  obtain ⟨s, hs⟩ := rt5_ex (dR x y z a b) (Nat.add (Nat.add (Int.natAbs (Int.sub x a)) (Int.natAbs (Int.sub y b))) (Int.natAbs z)) (fun s => and (Nat.ble (Nat.mul s s) (dR x y z a b)) (and (Nat.ble (dR x y z a b) (Nat.mul (Nat.add s 1) (Nat.add s 1)))
      (and (Nat.ble (hiV e s) 16000000000) (and (Nat.ble 34000000 (loV e s)) (k 0 (hiV e s) (loV e s))))))
  rw [hs] at h
  obtain ⟨h1, h⟩ := and_is h
  obtain ⟨h2, h⟩ := and_is h
  obtain ⟨h3, h⟩ := and_is h
  obtain ⟨h4, h⟩ := and_is h
  exact ⟨0, hiV e s, loV e s, ⟨⟨s, ble_is h1, ble_is h2, rfl, rfl⟩, ble_is h3, ble_is h4⟩, h⟩
/-- An edge that was looked at: what is known of it. -/
structure Gh where
  d : Ed
  hA : Nat
  lA : Nat
  hB : Nat
  lB : Nat
  ql : Nat
  qh : Nat
structure GhOk (x y z : Int) (e : Nat) (g : Gh) : Prop where
  vA : Vt x y z e g.d.ax g.d.ay g.hA g.lA
  vB : Vt x y z e g.d.bx g.d.by' g.hB g.lB
  eL : g.d.L2 + (g.lA + g.lB) * (g.lA + g.lB) / 2200000 + 1 + 1152921504606848 ≤ (g.lA + g.lB) * (g.lA + g.lB)
  hl : g.ql = dn (qlV g.hA g.hB g.d.L2)
  hh : g.qh = un (qhV g.lA g.lB g.d.L2)
  lh : g.ql ≤ g.qh
theorem sge_is {hA lA hB lB L2 : Nat} {k : Nat → Nat → Bool} (h : sge hA lA hB lB L2 k = true) : (L2 + (lA + lB) * (lA + lB) / 2200000 + 1 + 1152921504606848 ≤ (lA + lB) * (lA + lB)) ∧ dn (qlV hA hB L2) ≤ un (qhV lA lB L2) ∧ k (dn (qlV hA hB L2)) (un (qhV lA lB L2)) = true := by
  unfold sge at h
  simp only [force_is] at h
  obtain ⟨h1, h⟩ := and_is h
  obtain ⟨h2, h⟩ := and_is h
  exact ⟨ble_is h1, ble_is h2, h⟩
def dtO (x y : Int) (g : Gh) : Dt := ⟨g.ql + g.qh, g.qh - g.ql, g.hA + g.hB, kaI x y g.d, g.d⟩
def sN {α : Type} (f : α → Nat) : List α → Nat
  | [] => 0
  | a :: l => f a + sN f l
/-- Edges that follow one another from a place. -/
def Chn (a b : Int) : List Ed → Prop
  | [] => True
  | d :: l => d.ax = a ∧ d.ay = b ∧ Chn d.bx d.by' l
section
variable {x y z : Int} {e : Nat}
theorem ps1_is {fin : Nat → Nat → Nat → Nat → Nat → Nat → Nat → Nat → Nat → List Dt → Bool} : ∀ (l : List Ed) (a b : Int) (g hA lA XP XN YP YN FP FN SA Sw KT : Nat) (acc : List Dt), Chn a b l → Vt x y z e a b hA lA → ps1 x y z e fin l g hA lA XP XN YP YN FP FN SA Sw KT acc = true →
    ∃ gs : List Gh, (∀ g ∈ gs, GhOk x y z e g) ∧ gs.map Gh.d = l ∧ fin (XP + sN (fun g => (g.ql + g.qh) * g.d.ex.toNat) gs) (XN + sN (fun g => (g.ql + g.qh) * (-g.d.ex).toNat) gs) (YP + sN (fun g => (g.ql + g.qh) * g.d.ey.toNat) gs) (YN + sN (fun g => (g.ql + g.qh) * (-g.d.ey).toNat) gs)
      (FP + sN (fun g => (g.ql + g.qh) * (kaI x y g.d).toNat) gs) (FN + sN (fun g => (g.ql + g.qh) * (-kaI x y g.d).toNat) gs) (SA + sN (fun g => (g.qh - g.ql) * (g.hA + g.hB)) gs) (Sw + sN (fun g => g.qh - g.ql) gs) (KT + sN (fun g => 2 * g.qh * kx g.hA g.hB) gs) ((gs.map (dtO x y)).reverse ++ acc) = true
  | [], _, _, _, _, _, _, _, _, _, _, _, _, _, _, _, _, _, h => ⟨[], by simp, rfl, h⟩
  | d :: l, a, b, g, hA, lA, XP, XN, YP, YN, FP, FN, SA, Sw, KT, acc, hc, hv, h => by
    obtain ⟨c1, c2, c3⟩ := hc
    subst c1; subst c2
    have e0 : ps1 x y z e fin (d :: l) g hA lA XP XN YP YN FP FN SA Sw KT acc = vtx x y z e d.bx d.by' g (fun g hB lB => sge hA lA hB lB d.L2 fun ql qh => forceI (kaI x y d) fun ka =>
        ps1 x y z e fin l g hB lB (XP + (ql + qh) * d.ex.toNat) (XN + (ql + qh) * (-d.ex).toNat) (YP + (ql + qh) * d.ey.toNat) (YN + (ql + qh) * (-d.ey).toNat)
          (FP + (ql + qh) * ka.toNat) (FN + (ql + qh) * (-ka).toNat) (SA + (qh - ql) * (hA + hB)) (Sw + (qh - ql)) (KT + 2 * qh * kx hA hB) (⟨ql + qh, qh - ql, hA + hB, ka, d⟩ :: acc)) := rfl
    rw [e0] at h
    obtain ⟨s, hB, lB, v2, h⟩ := vtx_is h
    obtain ⟨h1, h2, h⟩ := sge_is h
    rw [forceI_is] at h
    obtain ⟨gs, g1, g2, g3⟩ := ps1_is l d.bx d.by' s hB lB _ _ _ _ _ _ _ _ _ _ c3 v2 h
    refine ⟨⟨d, hA, lA, hB, lB, dn (qlV hA hB d.L2), un (qhV lA lB d.L2)⟩ :: gs, ?_, ?_, ?_⟩
    · intro g hg
      rcases List.mem_cons.1 hg with hg | hg
      · subst hg
        exact ⟨hv, v2, h1, rfl, rfl, h2⟩
      · exact g1 g hg
    · rw [List.map_cons, g2]
    · simp only [sN, List.map_cons, List.reverse_cons, List.append_assoc, List.cons_append, List.nil_append]
      simp only [← Nat.add_assoc]
      exact g3
theorem ps2_is {u v t : Int} {fin : Nat → Nat → Bool} : ∀ (l : List Dt) (SB NC : Nat), ps2 z u v t fin l SB NC = true → fin (SB + sN (fun d => d.w * ppI z d (cuI z u v t d) / d.hh + 1) l) (NC + sN (fun d => d.w * (cuI z u v t d + 1)) l) = true
  | [], _, _, h => h
  | d :: l, SB, NC, h => by
    have e0 : ps2 z u v t fin (d :: l) SB NC = force (cuI z u v t d) (fun c => ps2 z u v t fin l (SB + (d.w * ppI z d c / d.hh + 1)) (NC + d.w * (c + 1))) := rfl
    rw [e0, force_is] at h
    have := ps2_is l _ _ h
    simp only [sN]
    simp only [← Nat.add_assoc] at this ⊢
    exact this
theorem sN_append {α : Type} (f : α → Nat) : ∀ l l' : List α, sN f (l ++ l') = sN f l + sN f l'
  | [], l' => by simp [sN]
  | a :: l, l' => by simp only [List.cons_append, sN, sN_append f l l', Nat.add_assoc]
theorem sN_reverse {α : Type} (f : α → Nat) : ∀ l : List α, sN f l.reverse = sN f l
  | [] => rfl
  | a :: l => by rw [List.reverse_cons, sN_append, sN_reverse f l]; simp only [sN]; omega
theorem sN_map {α β : Type} (f : β → Nat) (g : α → β) : ∀ l : List α, sN f (l.map g) = sN (fun a => f (g a)) l
  | [] => rfl
  | a :: l => by simp only [List.map_cons, sN, sN_map f g l]
end
/-- What was looked at. -/
structure Fi (x y z : Int) (e : Nat) (gs : List Gh) (W1 W2 F3 u v t : Int) (SA SB Sw NC KT N0 B S TT NN : Nat) : Prop where
  ok : ∀ g ∈ gs, GhOk x y z e g
  ds : gs.map Gh.d = eds
  hW1 : W1 = (sN (fun g => (g.ql + g.qh) * g.d.ex.toNat) gs : Int) - (sN (fun g => (g.ql + g.qh) * (-g.d.ex).toNat) gs : Int)
  hW2 : W2 = (sN (fun g => (g.ql + g.qh) * g.d.ey.toNat) gs : Int) - (sN (fun g => (g.ql + g.qh) * (-g.d.ey).toNat) gs : Int)
  hF3 : F3 = (sN (fun g => (g.ql + g.qh) * (kaI x y g.d).toNat) gs : Int) - (sN (fun g => (g.ql + g.qh) * (-kaI x y g.d).toNat) gs : Int)
  hSA : SA = sN (fun g => (g.qh - g.ql) * (g.hA + g.hB)) gs
  hSw : Sw = sN (fun g => g.qh - g.ql) gs
  hKT : KT = sN (fun g => 2 * g.qh * kx g.hA g.hB) gs
  hSB : SB = sN (fun g => (g.qh - g.ql) * ppI z (dtO x y g) (cuI z u v t (dtO x y g)) / (g.hA + g.hB) + 1) gs
  hNC : NC = sN (fun g => (g.qh - g.ql) * (cuI z u v t (dtO x y g) + 1)) gs
  N1 : 1 ≤ N0
  hu : u = (z * W2 * 1073741824).tdiv N0
  hv : v = (-(z * W1) * 1073741824).tdiv N0
  ht : t = (F3 * 1073741824).tdiv N0
  hU : near1 (sqI u + sqI v + sqI t) = true
  hB : sqI W1 + sqI W2 ≤ B * B
  hS : SA * SB ≤ S * S
  hTT : TT = e * (B + 555900000 * Sw) + KT + 1 + S + N0 / 16777216 + 1
  hNN : NN = N0 - (N0 / 16777216 + (e * (B + 555900000 * Sw) + KT + 1) + (e * (B + 555900000 * Sw) + KT + 1) / 512 + 2 + NC)
  N24 : 1000000000000000000000000 ≤ NN
  K25 : KT ≤ 80000000000000000000000000
theorem rt5_is {n g : Nat} {k : Nat → Bool} (h : rt5 n g k = true) : ∃ s, k s = true := by
  obtain ⟨s, e⟩ := rt5_ex n g k
  exact ⟨s, by rw [← e]; exact h⟩
theorem gss_is {n : Nat} {k : Nat → Bool} (h : gss n k = true) : ∃ s, k s = true := by
  obtain ⟨s, e⟩ := gss_ex n k
  exact ⟨s, by rw [← e]; exact h⟩
theorem snn (a b : Nat) : Int.subNatNat a b = (a : Int) - (b : Int) := Int.subNatNat_eq_coe
theorem bl0_is {x y z : Int} {e : Nat} {k : Int → Int → Int → Nat → Nat → Bool} (h : bl0 x y z e k = true) : ∃ gs W1 W2 F3 u v t SA SB Sw NC KT N0 B S TT NN, Fi x y z e gs W1 W2 F3 u v t SA SB Sw NC KT N0 B S TT NN ∧ k u v t TT NN = true := by
  unfold bl0 at h
  obtain ⟨g, hh, l, v0, h⟩ := vtx_is h
  obtain ⟨gs, g1, g2, g3⟩ := ps1_is eds (Int.ofNat 1073741824) (Int.ofNat 0) g hh l 0 0 0 0 0 0 0 0 0 [] (by unfold eds; exact ⟨rfl, rfl, rfl, rfl, rfl, rfl, rfl, rfl, rfl, rfl, rfl, rfl, rfl, rfl, rfl, rfl, rfl, rfl, rfl, rfl, rfl, rfl, rfl, rfl, trivial⟩) v0 h
  simp only [Nat.zero_add, List.append_nil] at g3
  unfold fin1 at g3
  simp only [force_is, forceI_is] at g3
  obtain ⟨N0, g3⟩ := rt5_is g3
  obtain ⟨h1, g3⟩ := and_is g3
  obtain ⟨h2, g3⟩ := and_is g3
  obtain ⟨B0, g3⟩ := rt5_is g3
  obtain ⟨h3, g3⟩ := and_is g3
  have g3 := ps2_is _ _ _ g3
  rw [Nat.zero_add, Nat.zero_add, sN_reverse, sN_reverse, sN_map, sN_map] at g3
  unfold fin2 at g3
  simp only [force_is] at g3
  obtain ⟨G, g3⟩ := gss_is g3
  obtain ⟨S0, g3⟩ := rt5_is g3
  obtain ⟨h4, g3⟩ := and_is g3
  obtain ⟨h5, g3⟩ := and_is g3
  obtain ⟨h6, g3⟩ := and_is g3
  rw [snn, snn, snn] at *
  refine ⟨gs, _, _, _, _, _, _, _, _, _, _, _, N0, _, _, _, _, ⟨g1, g2, rfl, rfl, rfl, rfl, rfl, rfl, rfl, rfl, ble_is h1, rfl, rfl, rfl, h2, ble_is h3, ble_is h4, rfl, rfl, ble_is h5, ble_is h6⟩, g3⟩
theorem bl_is {x y z : Int} {e : Nat} {k : Int → Int → Int → Nat → Bool} (h : bl x y z e k = true) : ∃ gs W1 W2 F3 u v t SA SB Sw NC KT N0 B S TT NN, Fi x y z e gs W1 W2 F3 u v t SA SB Sw NC KT N0 B S TT NN ∧ TT ≤ NN ∧ k u v t (TT * 1073741824 / NN + 481) = true := by
  unfold bl at h
  obtain ⟨gs, W1, W2, F3, u, v, t, SA, SB, Sw, NC, KT, N0, B, S, TT, NN, h1, h2⟩ := bl0_is h
  obtain ⟨h3, h2⟩ := and_is h2
  rw [force_is] at h2
  exact ⟨gs, W1, W2, F3, u, v, t, SA, SB, Sw, NC, KT, N0, B, S, TT, NN, h1, ble_is h3, h2⟩
end Mt
end Go.Proofs.Ytfkblhlkeglilaa
