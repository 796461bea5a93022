/- Own texts of this claim, merged: WWk. -/
import Derived.KernelRfl
import Derived.Test.YtnclpojljgpadaaKFnWired7
namespace Go.Proofs.Ytnclpojljgpadaa
open Go.RowKit
set_option linter.unusedVariables false
set_option linter.unusedSimpArgs false
set_option maxRecDepth 20000

theorem sz28_Wk : (Try.prog.info? 28).map (·.size) = some 3 := by kernel_rfl
theorem known25_Wk : Known Try.prog 25 := Known.mk' Try.func25 (by kernel_rfl)
theorem zero28_Wk : (Try.prog.info? 28).bind (·.zero) = some (Value.agg #[Value.float .f32 0, Value.float .f32 0, Value.float .f32 0]) := by kernel_rfl
theorem known21_Wk : Known Try.prog 21 := Known.mk' Try.func21 (by kernel_rfl)
theorem known22_Wk : Known Try.prog 22 := Known.mk' Try.func22 (by kernel_rfl)
theorem known24_Wk : Known Try.prog 24 := Known.mk' Try.func24 (by kernel_rfl)
theorem known23_Wk : Known Try.prog 23 := Known.mk' Try.func23 (by kernel_rfl)
theorem known4_Wk : Known Try.prog 4 := Known.mk' Try.func4 (by kernel_rfl)
theorem known5_Wk : Known Try.prog 5 := Known.mk' Try.func5 (by kernel_rfl)
theorem known6_Wk : Known Try.prog 6 := Known.mk' Try.func6 (by kernel_rfl)
theorem lay28_Wk : Lay Try.prog 28 [Value.float .f32 0, Value.float .f32 0, Value.float .f32 0] [(0, 1), (1, 1), (2, 1)] := Lay.mk' (by kernel_rfl) (by kernel_rfl)
theorem elt28_Wk : Elt Try.prog 28 [Value.float .f32 0, Value.float .f32 0, Value.float .f32 0] 12 := Elt.mk' (by kernel_rfl) (by decide)
theorem known7_Wk : Known Try.prog 7 := Known.mk' Try.func7 (by kernel_rfl)
theorem known8_Wk : Known Try.prog 8 := Known.mk' Try.func8 (by kernel_rfl)
theorem known9_Wk : Known Try.prog 9 := Known.mk' Try.func9 (by kernel_rfl)
theorem elt26_Wk : Elt Try.prog 26 [Value.float .f32 0] 4 := Elt.mk' (by kernel_rfl) (by decide)
theorem known10_Wk : Known Try.prog 10 := Known.mk' Try.func10 (by kernel_rfl)
theorem known11_Wk : Known Try.prog 11 := Known.mk' Try.func11 (by kernel_rfl)
theorem known12_Wk : Known Try.prog 12 := Known.mk' Try.func12 (by kernel_rfl)
theorem zero41_Wk : (Try.prog.info? 41).bind (·.zero) = some (Value.agg #[Value.slice none 0 0, Value.slice none 0 0, Value.slice none 0 0]) := by kernel_rfl
theorem sz41_Wk : (Try.prog.info? 41).map (·.size) = some 3 := by kernel_rfl
theorem known13_Wk : Known Try.prog 13 := Known.mk' Try.func13 (by kernel_rfl)
theorem mixed_Wk : Try.prog.follows .mixedOrders = true := by kernel_rfl
theorem known14_Wk : Known Try.prog 14 := Known.mk' Try.func14 (by kernel_rfl)
theorem sz26_Wk : (Try.prog.info? 26).map (·.size) = some 1 := by kernel_rfl
theorem fb26_Wk : flatB Try.prog 26 = true := by kernel_rfl
theorem known15_Wk : Known Try.prog 15 := Known.mk' Try.func15 (by kernel_rfl)
attribute [local irreducible] fop fcmp fconv fneg fabs List.getD qw hqw w2w g2w uw rgL rgR rgH rgC fieldI fieldS segF sumW wireF inner3 dX dG wantL missL setW flF gapV wantAt

theorem c_setE {w : World} {a : Option Addr} {c : Nat} {f : Nat → Option Addr × Nat} {ws : List Wr} {b : Option Addr} {d : Nat} {x : List Nat} (hA : Cl w a (whd f ws)) (hR : WRws w f ws) (hn : wbulk ws ≤ 1050000) (hB : Cl w b (fl x)) (hxn : x.length ≤ 1050000) (hok : scOk ws x = true) : New Try.prog 9 [.slice a ws.length c, .slice b x.length d] w (fun (p : (Option Addr × Nat) × (Nat → Option Addr × Nat)) => .tuple #[.slice p.1.1 (setW ws x).length p.1.2, .bool true]) (fun p => ⟨p.1.1, whd p.2 (setW ws x), p.1.2 * 3, 54⟩ :: wrents 28 p.2 (setW ws x)) := by
  have h := c_implSC (c := c) (d := d) hA hR hn hB hxn
  rw [scV_yes hok, hok] at h
  exact h
theorem c_dsnE {w : World} {a : Option Addr} {c : Nat} {f : Nat → Option Addr × Nat} {ws : List Wr} {a' : Option Addr} {c' : Nat} {vs : List V3} {y1 y2 y3 : Nat} {b : Option Addr} {d : Nat} {xs : List Nat} (hA : Cl w a (whd f ws)) (hR : WRws w f ws) (hn : wbulk ws ≤ 1050000) (hV : Cl w a' (vl vs)) (hv3 : vs.length = 3) (hB : Cl w b (fl xs)) (hx3 : xs.length = 3) (hok : dsOk ws vs (y1, y2, y3) xs = true) : New Try.prog 12 [.slice a ws.length c, .slice a' 3 c', vv (y1, y2, y3), .slice b 3 d] w (fun (p : ((Option Addr × Nat) × (Nat → Option Addr × Nat)) × (Option Addr × Nat) × (Option Addr × Nat)) => .tuple #[.agg #[.slice p.1.1.1 3 p.1.1.2, .slice p.2.1.1 3 p.2.1.2, .slice p.2.2.1 3 p.2.2.2], .bool true]) (fun p => ⟨p.2.2.1, fl (dG vs.length), p.2.2.2 * 1, 26⟩ :: ⟨p.2.1.1, fl xs, p.2.1.2 * 1, 26⟩ :: ⟨p.1.1.1, hd p.1.2 (dX ws vs (y1, y2, y3)), p.1.1.2 * 1, 32⟩ :: rents 26 p.1.2 (dX ws vs (y1, y2, y3))) := by
  have h := c_implDsn (c := c) (c' := c') (d := d) (y1 := y1) (y2 := y2) (y3 := y3) hA hR hn hV (by omega) hB (by omega)
  rw [dsX_yes hok, dsW_yes hok, dsG_yes hok, hok, dX_length, dG_length, hx3] at h
  simp only [hv3] at h ⊢
  exact h
theorem c_missE {w : World} {a a1 a2 : Option Addr} {c c1 c2 : Nat} {f : Nat → Option Addr × Nat} {xss : List (List Nat)} {ws gs : List Nat} {b : Option Addr} {d : Nat} {x : List Nat} (hA : Cl w a (hd f xss)) (hR : Rws w f xss) (hW : Cl w a1 (fl ws)) (hG : Cl w a2 (fl gs)) (hB : Cl w b (fl x)) (hsz : bulk xss + ws.length + gs.length ≤ 1050000) (h1 : xss.length = 3) (h2 : ws.length = 3) (h3 : gs.length = 3) (hok : fitsD xss ws gs x = true) : New Try.prog 13 [.agg #[.slice a 3 c, .slice a1 3 c1, .slice a2 3 c2], .slice b x.length d] w (fun p : Option Addr × Nat => .tuple #[.slice p.1 3 p.2, .bool true]) (fun p => [⟨p.1, fl (missL xss ws x xss.length), p.2 * 1, 26⟩]) := by
  have h := c_implMisses (c := c) (c1 := c1) (c2 := c2) (d := d) hA hR hW hG hB hsz
  rw [missesD_yes hok, hok, missL_length] at h
  simp only [h1, h2, h3] at h ⊢
  exact h
theorem c_flatE {w : World} {a : Option Addr} {c : Nat} {f : Nat → Option Addr × Nat} {ws : List Wr} {a' : Option Addr} {c' : Nat} {vs : List V3} {y1 y2 y3 n : Nat} (hA : Cl w a (whd f ws)) (hR : WRws w f ws) (hn : wbulk ws ≤ 1050000) (hV : Cl w a' (vl vs)) (hvn : vs.length = n) (hn5 : n ≤ 1000) (hok : flOk ws vs (y1, y2, y3) = true) : Pure Try.prog 14 [.slice a ws.length c, .slice a' n c', vv (y1, y2, y3)] w (.tuple #[.float .f32 (flF ws vs (y1, y2, y3)), .bool true]) := by
  subst hvn
  have h := c_implFlat (c := c) (c' := c') (y1 := y1) (y2 := y2) (y3 := y3) hA hR hn hV (by omega)
  unfold flR at h
  rw [hok] at h
  exact h
theorem c_b10GapV {w : World} {x y : Nat} : Pure Try.prog 15 [.float .f64 x, .float .f64 y] w (.float .f64 (gapV x y)) := by
  refine Pure.enter Try.func15 rfl Try.ntmps15 (Nat.le_of_ble_eq_true rfl) ?_
  refine V.seq ?_
  refine V.region ?_
  refine VL.r (.inl rfl) rfl (by decide) (yr_assign (u := .float .f64 0) rfl rfl) ?_
  refine VL.nil ?_
  refine VE.then_wp ?_
  refine V.seq ?_
  refine V.seq ?_
  refine V.region ?_
  refine VL.r (.inl rfl) rfl (by decide) (yr_move rfl rfl) ?_
  refine VL.r (.inl rfl) rfl (by decide) (yr_move rfl rfl) ?_
  refine VL.r (.inl rfl) rfl (by decide) (yr_fcmp rfl (.inr (.inr (.inl rfl))) rfl rfl) ?_
  refine VL.nil ?_
  refine VE.then_wp ?_
  refine V.cond rfl (fun h1 => ?_) (fun h1 => ?_)
  · skip
    refine V.seq ?_
    refine V.region ?_
    refine VL.r (.inl rfl) rfl (by decide) (yr_move rfl rfl) ?_
    refine VL.r (.inl rfl) rfl (by decide) (yr_move rfl rfl) ?_
    refine VL.r (.inl rfl) rfl (by decide) (yr_float rfl (.inr (.inl rfl)) rfl rfl) ?_
    refine VL.r (.inl rfl) rfl (by decide) (yr_assign rfl rfl) ?_
    refine VL.nil ?_
    refine VE.then_wp ?_
    refine V.ret ?_
    refine VE.then_ret ?_
    refine ret1 rfl rfl (fun w1 hw => ?_)
    exact ⟨congrArg (Value.float .f64) (by unfold gapV; rw [if_pos (by assumption)]), hw.below⟩
  · skip
    refine V.skip ?_
    refine VE.then_wp ?_
    refine V.seq ?_
    refine V.region ?_
    refine VL.r (.inl rfl) rfl (by decide) (yr_move rfl rfl) ?_
    refine VL.r (.inl rfl) rfl (by decide) (yr_move rfl rfl) ?_
    refine VL.r (.inl rfl) rfl (by decide) (yr_float rfl (.inr (.inl rfl)) rfl rfl) ?_
    refine VL.r (.inl rfl) rfl (by decide) (yr_assign rfl rfl) ?_
    refine VL.nil ?_
    refine VE.then_wp ?_
    refine V.ret ?_
    refine ret1 rfl rfl (fun w1 hw => ?_)
    exact ⟨congrArg (Value.float .f64) (by unfold gapV; rw [if_neg (by simp [*])]), hw.below⟩

theorem c_innerS {w : World} {x1 x2 x3 y1 y2 y3 : Nat} : Pure Try.prog 11 [vv (x1, x2, x3), vv (y1, y2, y3)] w (.float .f32 (inner3 (x1, x2, x3) (y1, y2, y3))) := by
  refine Pure.enter Try.func11 rfl Try.ntmps11 (Nat.le_of_ble_eq_true rfl) ?_
  refine V.seq ?_
  refine V.region ?_
  refine VL.new1 (.inl rfl) rfl (by decide) (yn_box rfl rfl (.inr ⟨rfl, rfl⟩)) ?_
  intro b2
  refine VL.new1 (.inl rfl) rfl (by decide) (yn_box rfl rfl (.inr ⟨rfl, rfl⟩)) ?_
  intro b3
  refine VL.r (.inl rfl) rfl (by decide) (yr_assign (u := .float .f32 0) rfl rfl) ?_
  refine VL.nil ?_
  refine VE.then_wp ?_
  refine V.seq ?_
  refine V.region ?_
  refine VL.q (.inl rfl) rfl (by decide) (yq_loadS rfl Try.underlying28 sz28_Wk rfl (by first | exact Sees.root (by assumption) | exact Sees.own (by repeat (first | exact List.mem_cons_self | exact List.mem_append_left _ (by assumption) | apply List.mem_cons_of_mem | apply List.mem_append_right)) | exact Sees.root (hR _ (by omega)) | exact Sees.own (RowsIn.mem (by repeat (first | exact RowsIn.here | exact RowsIn.last | apply RowsIn.there | apply RowsIn.thereS)) _ (by omega)) | exact Sees.own (WRowsIn.mem (by repeat (first | exact WRowsIn.here | exact WRowsIn.last | apply WRowsIn.there | apply WRowsIn.thereS)) _ (by omega))) rfl rfl rfl) ?_
  refine VL.q (.inl rfl) rfl (by decide) (yq_loadS rfl Try.underlying28 sz28_Wk rfl (by first | exact Sees.root (by assumption) | exact Sees.own (by repeat (first | exact List.mem_cons_self | exact List.mem_append_left _ (by assumption) | apply List.mem_cons_of_mem | apply List.mem_append_right)) | exact Sees.root (hR _ (by omega)) | exact Sees.own (RowsIn.mem (by repeat (first | exact RowsIn.here | exact RowsIn.last | apply RowsIn.there | apply RowsIn.thereS)) _ (by omega)) | exact Sees.own (WRowsIn.mem (by repeat (first | exact WRowsIn.here | exact WRowsIn.last | apply WRowsIn.there | apply WRowsIn.thereS)) _ (by omega))) rfl rfl rfl) ?_
  refine VL.q (.inl rfl) rfl (by decide) (yq_callf rfl known25_Wk (.cons rfl (.cons rfl .nil)) (fun w hw => c_inner3S)) ?_
  refine VL.r (.inl rfl) rfl (by decide) (yr_assign rfl rfl) ?_
  refine VL.nil ?_
  refine VE.then_wp ?_
  refine V.ret ?_
  refine ret1 rfl rfl (fun w1 hw => ?_)
  exact ⟨rfl, hw.below⟩

theorem c_fieldSE {w : World} {a : Option Addr} {c : Nat} {f : Nat → Option Addr × Nat} {ws : List Wr} {p1 p2 p3 : Nat} (hA : Cl w a (whd f ws)) (hR : WRws w f ws) (hn : wbulk ws ≤ 1050000) (hv : wiresOk ws = true) (hp : fin3 (p1, p2, p3) = true) (hf : fin3 (fieldI ws (p1, p2, p3)) = true) : Pure Try.prog 10 [.slice a ws.length c, vv (p1, p2, p3)] w (.tuple #[vv (fieldI ws (p1, p2, p3)), .bool true]) := by
  refine Pure.enter Try.func10 rfl Try.ntmps10 (Nat.le_of_ble_eq_true rfl) ?_
  have hwl : ws.length ≤ wbulk ws := by unfold wbulk; omega
  have hrw : ∀ k, k < ws.length → (ws.getD k zw).1.length ≤ 1050000 := fun k hk => by have := wbulk_row hk; omega
  refine V.seq ?_
  refine V.region ?_
  refine VL.new1 (.inl rfl) rfl (by decide) (yn_box rfl rfl (.inr ⟨rfl, rfl⟩)) ?_
  intro b3
  refine VL.new1 (.inl rfl) rfl (by decide) (yn_alloc rfl zero28_Wk rfl) ?_
  intro b4
  refine VL.r (.inl rfl) rfl (by decide) (yr_assign (u := .bool false) rfl rfl) ?_
  refine VL.nil ?_
  refine VE.then_wp ?_
  refine V.seq ?_
  refine V.seq ?_
  refine V.region ?_
  refine VL.r (.inl rfl) rfl (by decide) (yr_move rfl rfl) ?_
  refine VL.q (.inl rfl) rfl (by decide) (yq_callf rfl known21_Wk (.cons rfl .nil) (fun w hw => (c_l02Are (by first | exact Sees.root (by assumption) w hw | exact Sees.own (by repeat (first | exact List.mem_cons_self | exact List.mem_append_left _ (by assumption) | apply List.mem_cons_of_mem | apply List.mem_append_right)) w hw) (by first | exact WRws.root (by assumption) hw | exact WRws.own (by repeat (first | exact WRowsIn.here | exact WRowsIn.last | apply WRowsIn.there | apply WRowsIn.thereS)) hw) (by omega)))) ?_
  refine VL.r (.inl rfl) rfl (by decide) (yr_not rfl rfl) ?_
  refine VL.r (.inl rfl) rfl (by decide) (yr_move rfl rfl) ?_
  refine VX.split 9 _ rfl (fun h1 => ?_) (fun h1 => ?_)
  · skip
    replace h1 := bnot_t h1
    rw [hv] at h1; cases h1
  · skip
    replace h1 := bnot_f h1
    refine VL.q (.inr ⟨_, _, _, rfl, rfl, rfl⟩) rfl (by decide) (yq_loadS rfl Try.underlying28 sz28_Wk rfl (by first | exact Sees.root (by assumption) | exact Sees.own (by repeat (first | exact List.mem_cons_self | exact List.mem_append_left _ (by assumption) | apply List.mem_cons_of_mem | apply List.mem_append_right)) | exact Sees.root (hR _ (by omega)) | exact Sees.own (RowsIn.mem (by repeat (first | exact RowsIn.here | exact RowsIn.last | apply RowsIn.there | apply RowsIn.thereS)) _ (by omega)) | exact Sees.own (WRowsIn.mem (by repeat (first | exact WRowsIn.here | exact WRowsIn.last | apply WRowsIn.there | apply WRowsIn.thereS)) _ (by omega))) rfl rfl rfl) ?_
    refine VL.q (.inr ⟨_, _, _, rfl, rfl, rfl⟩) rfl (by decide) (yq_callf rfl known22_Wk (.cons rfl .nil) (fun w hw => c_fin3S)) ?_
    refine VL.r (.inr ⟨_, _, _, rfl, rfl, rfl⟩) rfl (by decide) (yr_not rfl rfl) ?_
    refine VL.r (.inl rfl) rfl (by decide) (yr_pick_f rfl rfl rfl) ?_
    refine VL.nil ?_
    refine VE.then_wp ?_
    refine V.cond rfl (fun h2 => ?_) (fun h2 => ?_)
    · skip
      replace h2 := bnot_t h2
      rw [hp] at h2; cases h2
    · skip
      replace h2 := bnot_f h2
      refine V.skip ?_
      refine VE.then_wp ?_
      refine V.seq ?_
      refine V.region ?_
      refine VL.r (.inl rfl) rfl (by decide) (yr_move rfl rfl) ?_
      refine VL.q (.inl rfl) rfl (by decide) (yq_loadS rfl Try.underlying28 sz28_Wk rfl (by first | exact Sees.root (by assumption) | exact Sees.own (by repeat (first | exact List.mem_cons_self | exact List.mem_append_left _ (by assumption) | apply List.mem_cons_of_mem | apply List.mem_append_right)) | exact Sees.root (hR _ (by omega)) | exact Sees.own (RowsIn.mem (by repeat (first | exact RowsIn.here | exact RowsIn.last | apply RowsIn.there | apply RowsIn.thereS)) _ (by omega)) | exact Sees.own (WRowsIn.mem (by repeat (first | exact WRowsIn.here | exact WRowsIn.last | apply WRowsIn.there | apply WRowsIn.thereS)) _ (by omega))) rfl rfl rfl) ?_
      refine VL.q (.inl rfl) rfl (by decide) (yq_callf rfl known24_Wk (.cons rfl (.cons rfl .nil)) (fun w hw => (c_l02AllF (by first | exact Sees.root (by assumption) w hw | exact Sees.own (by repeat (first | exact List.mem_cons_self | exact List.mem_append_left _ (by assumption) | apply List.mem_cons_of_mem | apply List.mem_append_right)) w hw) (by first | exact WRws.root (by assumption) hw | exact WRws.own (by repeat (first | exact WRowsIn.here | exact WRowsIn.last | apply WRowsIn.there | apply WRowsIn.thereS)) hw) (by omega) hv hp))) ?_
      refine VL.q (.inl rfl) rfl (by decide) (yq_callf rfl known23_Wk (.cons rfl .nil) (fun w hw => c_l02Vector)) ?_
      refine VL.r (.inl rfl) rfl (by decide) (yr_extract rfl rfl rfl (by nofun)) ?_
      refine VL.r (.inl rfl) rfl (by decide) (yr_extract rfl rfl rfl (by nofun)) ?_
      refine VL.s (.inl rfl) rfl (yc_store rfl sz28_Wk rfl rfl (by repeat (first | exact UpdF.here | apply UpdF.there | apply UpdF.thereS)) (.inr ⟨rfl, rfl⟩) rfl (by first | exact Nat.le_of_ble_eq_true rfl | simp) (by decide) rfl) ?_
      rintro ⟨⟩
      refine VL.r (.inl rfl) rfl (by decide) (yr_assign rfl rfl) ?_
      refine VL.nil ?_
      refine VE.then_wp ?_
      refine V.ret ?_
      refine retN rfl (.cons (rv_cellS rfl Try.underlying28 sz28_Wk (by first | exact Sees.root (by assumption) | exact Sees.own (by repeat (first | exact List.mem_cons_self | exact List.mem_append_left _ (by assumption) | apply List.mem_cons_of_mem | apply List.mem_append_right)) | exact Sees.root (hR _ (by omega)) | exact Sees.own (RowsIn.mem (by repeat (first | exact RowsIn.here | exact RowsIn.last | apply RowsIn.there | apply RowsIn.thereS)) _ (by omega)) | exact Sees.own (WRowsIn.mem (by repeat (first | exact WRowsIn.here | exact WRowsIn.last | apply WRowsIn.there | apply WRowsIn.thereS)) _ (by omega))) rfl rfl rfl) (.cons (rv_tmp rfl (by nofun)) .nil)) (by nofun) (fun w1 hw => ?_)
      refine ⟨?_, hw.below⟩
      have e9 := ifV_yes hf
      show Value.tuple #[vv (ifV (fieldI ws (p1, p2, p3))), .bool (fin3 (fieldI ws (p1, p2, p3)))] = _
      rw [← e9, hf]

theorem law_Wired {w : World} {a b : Option Addr} {c d : Nat} {bs cs : List Int} (hA : Cl w a (bl bs)) (hB : Cl w b (bl cs)) (hb : Bytes bs) (hcb : Bytes cs) : Pure Try.prog 3 [.slice a bs.length c, .slice b cs.length d] w (.bool true) := by
  refine Pure.enter Try.func3 rfl Try.ntmps3 (Nat.le_of_ble_eq_true rfl) ?_
  refine V.seq ?_
  refine V.region ?_
  refine VL.r (.inl rfl) rfl (by decide) (yr_assign (u := .bool false) rfl rfl) ?_
  refine VL.nil ?_
  refine VE.then_wp ?_
  refine V.seq ?_
  refine V.seq ?_
  refine V.region ?_
  refine VL.r (.inl rfl) rfl (by decide) (yr_move rfl rfl) ?_
  refine VL.r (.inl rfl) rfl (by decide) (yr_move rfl rfl) ?_
  refine VL.q (.inl rfl) rfl (by decide) (yq_callf rfl known4_Wk (.cons rfl (.cons rfl .nil)) (fun w hw => c_b10Long)) ?_
  refine VL.nil ?_
  refine VE.then_wp ?_
  refine V.cond rfl (fun h1 => ?_) (fun h1 => ?_)
  · skip
    refine V.seq ?_
    refine V.region ?_
    refine VL.r (.inl rfl) rfl (by decide) (yr_assign (u := .bool true) rfl rfl) ?_
    refine VL.nil ?_
    refine VE.then_wp ?_
    refine V.ret ?_
    refine VE.then_ret ?_
    refine ret1 rfl rfl (fun w1 hw => ?_)
    exact ⟨rfl, hw.below⟩
  · skip
    rw [Bool.or_eq_false_iff, decide_eq_false_iff_not, decide_eq_false_iff_not] at h1
    have hl1 := h1.1
    have hl2 := h1.2
    refine V.skip ?_
    refine VE.then_wp ?_
    refine V.seq ?_
    refine V.region ?_
    refine VL.r (.inl rfl) rfl (by decide) (yr_move rfl rfl) ?_
    refine VL.new (.inl rfl) rfl (by decide) (yn_callf rfl known5_Wk (.cons rfl .nil) (fun w hw => (c_rings (by first | exact Sees.root (by assumption) w hw | exact Sees.own (by repeat (first | exact List.mem_cons_self | exact List.mem_append_left _ (by assumption) | apply List.mem_cons_of_mem | apply List.mem_append_right)) w hw) hb (by omega)))) ?_
    rintro ⟨⟨⟨⟨a28, c28⟩, f28⟩, ws28⟩, hl28, hr28⟩
    dsimp only at hl28 hr28
    refine VL.r (.inl rfl) rfl (by decide) (yr_assign rfl rfl) ?_
    refine VL.nil ?_
    refine VE.then_wp ?_
    refine V.seq ?_
    refine V.region ?_
    refine VL.r (.inl rfl) rfl (by decide) (yr_move rfl rfl) ?_
    refine VL.new (.inl rfl) rfl (by decide) (yn_callf rfl known6_Wk (.cons rfl (.cons rfl .nil)) (fun w hw => (c_vector (m := 2) (by first | exact Sees.root (by assumption) w hw | exact Sees.own (by repeat (first | exact List.mem_cons_self | exact List.mem_append_left _ (by assumption) | apply List.mem_cons_of_mem | apply List.mem_append_right)) w hw) hcb (by omega) (.inl rfl)))) ?_
    rintro ⟨⟨f30, g30, h30⟩, hp30⟩
    refine VL.r (.inl rfl) rfl (by decide) (yr_move rfl rfl) ?_
    refine VL.new (.inl rfl) rfl (by decide) (yn_callf rfl known6_Wk (.cons rfl (.cons rfl .nil)) (fun w hw => (c_vector (m := 3) (by first | exact Sees.root (by assumption) w hw | exact Sees.own (by repeat (first | exact List.mem_cons_self | exact List.mem_append_left _ (by assumption) | apply List.mem_cons_of_mem | apply List.mem_append_right)) w hw) hb (by omega) (.inr rfl)))) ?_
    rintro ⟨⟨f32, g32, h32⟩, hp32⟩
    refine VL.r (.inl rfl) rfl (by decide) (yr_build rfl lay28_Wk rfl (.cons rfl .nil) (by first | (simp; done) | (simp [vv]; done) | (simp [cn, cn1, cn0]; done)) rfl) ?_
    refine VL.new1 (.inl rfl) rfl (by decide) (yn_buildSlice rfl Try.underlying30 elt28_Wk rfl (by decide) (.cons rfl (.cons rfl (.cons rfl .nil))) (by first | (simp; done) | (simp [vv]; done)) rfl rfl) ?_
    intro b34
    refine VL.r (.inl rfl) rfl (by decide) (yr_assign rfl rfl) ?_
    refine VL.nil ?_
    refine VE.then_wp ?_
    refine V.seq ?_
    refine V.region ?_
    refine VL.r (.inl rfl) rfl (by decide) (yr_move rfl rfl) ?_
    refine VL.new (.inl rfl) rfl (by decide) (yn_callf rfl known7_Wk (.cons rfl (.cons rfl (.cons rfl .nil))) (fun w hw => (c_b10At (k := 0) (m := 3) (by first | exact Sees.root (by assumption) w hw | exact Sees.own (by repeat (first | exact List.mem_cons_self | exact List.mem_append_left _ (by assumption) | apply List.mem_cons_of_mem | apply List.mem_append_right)) w hw) hcb (by omega) (by decide) (by omega)))) ?_
    rintro ⟨x36, hx36⟩
    refine VL.r (.inl rfl) rfl (by decide) (yr_ofInt rfl Try.underlying2 Try.underlying26 rfl) ?_
    refine VL.r (.inl rfl) rfl (by decide) (yr_build rfl lay28_Wk rfl (.cons rfl (.cons rfl .nil)) (by first | (simp; done) | (simp [vv]; done) | (simp [cn, cn1, cn0]; done)) rfl) ?_
    refine VL.new1 (.inl rfl) rfl (by decide) (yn_alloc rfl zero28_Wk rfl) ?_
    intro b7
    refine VL.s (.inl rfl) rfl (yc_store rfl sz28_Wk rfl rfl (by repeat (first | exact UpdF.here | apply UpdF.there | apply UpdF.thereS)) (.inr ⟨rfl, rfl⟩) rfl (by first | exact Nat.le_of_ble_eq_true rfl | simp) (by decide) rfl) ?_
    rintro ⟨⟩
    refine VL.nil ?_
    refine VE.then_wp ?_
    refine V.seq ?_
    refine V.region ?_
    refine VL.r (.inl rfl) rfl (by decide) (yr_move rfl rfl) ?_
    refine VL.r (.inl rfl) rfl (by decide) (yr_move rfl rfl) ?_
    refine VL.r (.inl rfl) rfl (by decide) (yr_len rfl Try.underlying24 rfl) ?_
    refine VL.new (.inl rfl) rfl (by decide) (yn_callf rfl known8_Wk (.cons rfl (.cons rfl .nil)) (fun w hw => (c_b10X (m := ws28.length) (by first | exact Sees.root (by assumption) w hw | exact Sees.own (by repeat (first | exact List.mem_cons_self | exact List.mem_append_left _ (by assumption) | apply List.mem_cons_of_mem | apply List.mem_append_right)) w hw) hcb (by omega) (by (try dsimp only); omega)))) ?_
    rintro ⟨⟨⟨a42, c42⟩, xs42⟩, hl42, hq42⟩
    dsimp only at hl42 hq42
    have hD : WD ws28 xs42 [(f30, g30, h30), (f32, g32, h32), (0, 0, 1056964608)] (FloatKind.f32.nearest (x36 : Int), 0, 1065353216) := ⟨hl28.1, hl28.2, rings_get hr28, hl42, hq42, rfl, pts3 hp30 hp32 pt_half, x36, hx36, rfl⟩
    have hbu := hD.bulk
    have hbx := hD.bx
    refine VL.r (.inl rfl) rfl (by decide) (yr_assign rfl rfl) ?_
    refine VL.nil ?_
    refine VE.then_wp ?_
    refine V.seq ?_
    refine V.region ?_
    refine VL.r (.inl rfl) rfl (by decide) (yr_move rfl rfl) ?_
    refine VL.r (.inl rfl) rfl (by decide) (yr_move rfl rfl) ?_
    refine VL.new (.inl rfl) rfl (by decide) (yn_callf rfl known9_Wk (.cons rfl (.cons rfl .nil)) (fun w hw => (c_setE (ws := ws28) (x := xs42) (by first | exact Sees.root (by assumption) w hw | exact Sees.own (by repeat (first | exact List.mem_cons_self | exact List.mem_append_left _ (by assumption) | apply List.mem_cons_of_mem | apply List.mem_append_right)) w hw) (by first | exact WRws.root (by assumption) hw | exact WRws.own (by repeat (first | exact WRowsIn.here | exact WRowsIn.last | apply WRowsIn.there | apply WRowsIn.thereS)) hw) (by omega) (by first | exact Sees.root (by assumption) w hw | exact Sees.own (by repeat (first | exact List.mem_cons_self | exact List.mem_append_left _ (by assumption) | apply List.mem_cons_of_mem | apply List.mem_append_right)) w hw) (by omega) hD.sc))) ?_
    rintro ⟨⟨a46, c46⟩, f46⟩
    refine VL.r (.inl rfl) rfl (by decide) (yr_move rfl rfl) ?_
    refine VL.r (.inl rfl) rfl (by decide) (yr_extract rfl rfl rfl (by nofun)) ?_
    refine VL.r (.inl rfl) rfl (by decide) (yr_extract rfl rfl rfl (by nofun)) ?_
    refine VL.r (.inl rfl) rfl (by decide) (yr_assign rfl rfl) ?_
    refine VL.r (.inl rfl) rfl (by decide) (yr_assign rfl rfl) ?_
    refine VL.nil ?_
    refine VE.then_wp ?_
    refine V.seq ?_
    refine V.region ?_
    refine VL.new1 (.inl rfl) rfl (by decide) (yn_lit rfl Try.underlying32 elt26_Wk rfl (by decide) .nil (by first | (simp; done) | (simp [cn, cn1, cn0]; done)) rfl rfl rfl) ?_
    intro b49
    refine VL.r (.inl rfl) rfl (by decide) (yr_assign rfl rfl) ?_
    refine VL.nil ?_
    refine VE.then_wp ?_
    refine V.seq ?_
    refine V.seq ?_
    refine V.region ?_
    refine VL.r (.inl rfl) rfl (by decide) (yr_move rfl rfl) ?_
    refine VL.r (.inl rfl) rfl (by decide) (yr_len rfl Try.underlying30 rfl) ?_
    refine VL.r (.inl rfl) rfl (by decide) (yr_move (u := .int .i64 0) rfl rfl) ?_
    refine VL.nil ?_
    refine VE.then_wp ?_
    refine V.block ?_
    refine V.loopc (G := Nat × (Option Addr) × Nat) [(5, _), (6, _), (7, _), (8, _), (9, _), (10, _), (51, _)] (fun ⟨i, ar, cr⟩ => i ≤ 3) (fun ⟨i, ar, cr⟩ => (⟨ar, fl (wantL ws28 xs42 [(f30, g30, h30), (f32, g32, h32), (0, 0, 1056964608)] (FloatKind.f32.nearest (x36 : Int), 0, 1065353216) i), cr * 1, 26⟩ :: ⟨a46, whd f46 (setW ws28 xs42), c46 * 3, 54⟩ :: (wrents 28 f46 (setW ws28 xs42) ++ (⟨a28, whd f28 ws28, c28 * 3, 54⟩ :: ⟨some ⟨b34, 0, none⟩, vl [(f30, g30, h30), (f32, g32, h32), (0, 0, 1056964608)], 9, 28⟩ :: ⟨some ⟨b7, 0, none⟩, [.float .f32 (FloatKind.f32.nearest (x36 : Int)), .float .f32 0, .float .f32 1065353216], 3, 28⟩ :: ⟨a42, fl xs42, c42 * 1, 26⟩ :: wrents 28 f28 ws28)))) (fun ⟨i, ar, cr⟩ => [(11, .slice ar i cr), (52, .int .i64 (i : Int))]) (fun ⟨i, ar, cr⟩ => 3 - i) (0, some ⟨b49, 0, none⟩, 0) (.cons rfl (.cons rfl (.cons rfl (.cons rfl (.cons rfl (.cons rfl (.cons rfl .nil))))))) (.cons rfl (.cons rfl .nil)) ?_ ?_ ?_
    · exact (fun w hw => by dsimp only; rw [show (wantL ws28 xs42 [(f30, g30, h30), (f32, g32, h32), (0, 0, 1056964608)] (FloatKind.f32.nearest (x36 : Int), 0, 1065353216) 0) = [] from by unfold wantL; rfl, fl_nil]; exact hw.pick (by apply Pick.cons1; (· repeat (first | exact Rem.here | exact Rem.all | exact Rem.hereS | apply Rem.there | apply Rem.thereS)); apply Pick.cons1; (· repeat (first | exact Rem.here | exact Rem.all | exact Rem.hereS | apply Rem.there | apply Rem.thereS)); apply Pick.app1; (· repeat (first | exact Rem.here | exact Rem.all | exact Rem.hereS | apply Rem.there | apply Rem.thereS)); apply Pick.cons1; (· repeat (first | exact Rem.here | exact Rem.all | exact Rem.hereS | apply Rem.there | apply Rem.thereS)); apply Pick.cons1; (· repeat (first | exact Rem.here | exact Rem.all | exact Rem.hereS | apply Rem.there | apply Rem.thereS)); apply Pick.cons1; (· repeat (first | exact Rem.here | exact Rem.all | exact Rem.hereS | apply Rem.there | apply Rem.thereS)); apply Pick.cons1; (· repeat (first | exact Rem.here | exact Rem.all | exact Rem.hereS | apply Rem.there | apply Rem.thereS)); apply Pick.last; repeat (first | exact Rem.here | exact Rem.all | exact Rem.hereS | apply Rem.there | apply Rem.thereS)))
    · exact (Nat.zero_le _)
    rintro ⟨i, ar, cr⟩ hi9
    show V _ _ _ (⟨ar, fl (wantL ws28 xs42 [(f30, g30, h30), (f32, g32, h32), (0, 0, 1056964608)] (FloatKind.f32.nearest (x36 : Int), 0, 1065353216) i), cr * 1, 26⟩ :: ⟨a46, whd f46 (setW ws28 xs42), c46 * 3, 54⟩ :: (wrents 28 f46 (setW ws28 xs42) ++ (⟨a28, whd f28 ws28, c28 * 3, 54⟩ :: ⟨some ⟨b34, 0, none⟩, vl [(f30, g30, h30), (f32, g32, h32), (0, 0, 1056964608)], 9, 28⟩ :: ⟨some ⟨b7, 0, none⟩, [.float .f32 (FloatKind.f32.nearest (x36 : Int)), .float .f32 0, .float .f32 1065353216], 3, 28⟩ :: ⟨a42, fl xs42, c42 * 1, 26⟩ :: wrents 28 f28 ws28))) ([(11, .slice ar i cr), (52, .int .i64 (i : Int))] ++ [(5, _), (6, _), (7, _), (8, _), (9, _), (10, _), (51, _)]) _ _
    have hi3 : i ≤ 3 := hi9
    refine V.seq ?_
    refine V.region ?_
    refine VL.r (.inl rfl) rfl (by decide) (yr_icmp rfl (.inr (.inr (.inl rfl))) rfl rfl) ?_
    refine VL.nil ?_
    refine VE.then_wp ?_
    refine V.seq ?_
    refine V.cond rfl (fun h2 => ?_) (fun h2 => ?_)
    · skip
      replace h2 := ic_lss h2
      refine V.skip ?_
      refine VE.then_wp ?_
      refine V.seq ?_
      refine V.block ?_
      refine V.seq ?_
      refine V.region ?_
      refine VL.r (.inl rfl) rfl (by decide) (yr_move rfl rfl) ?_
      refine VL.r (.inl rfl) rfl (by decide) (yr_assign rfl rfl) ?_
      refine VL.nil ?_
      refine VE.then_wp ?_
      refine V.seq ?_
      refine V.region ?_
      refine VL.r (.inl rfl) rfl (by decide) (yr_move rfl rfl) ?_
      refine VL.r (.inl rfl) rfl (by decide) (yr_move rfl rfl) ?_
      refine VL.r (.inl rfl) rfl (by decide) (yr_move rfl rfl) ?_
      refine VL.q (.inl rfl) rfl (by decide) (yq_idxN (k := i) rfl Try.underlying30 sz28_Wk rfl rfl (by first | exact Sees.root (by assumption) | exact Sees.own (by repeat (first | exact List.mem_cons_self | exact List.mem_append_left _ (by assumption) | apply List.mem_cons_of_mem | apply List.mem_append_right)) | exact Sees.root (hR _ (by omega)) | exact Sees.own (RowsIn.mem (by repeat (first | exact RowsIn.here | exact RowsIn.last | apply RowsIn.there | apply RowsIn.thereS)) _ (by omega)) | exact Sees.own (WRowsIn.mem (by repeat (first | exact WRowsIn.here | exact WRowsIn.last | apply WRowsIn.there | apply WRowsIn.thereS)) _ (by omega))) (by first | rfl | omega | (push_cast; rfl) | (push_cast; omega) | exact tmod_nat _ _) (by exact vl_length _) (by decide) (by first | (rw [missL_length, dX_length]; show i < 3; omega) | (rw [wantL_length]; omega) | (show i < 3; omega))) ?_
      refine VL.q (.inl rfl) rfl (by decide) (yq_loadV rfl Try.underlying28 sz28_Wk rfl (by first | exact Sees.root (by assumption) | exact Sees.own (by repeat (first | exact List.mem_cons_self | exact List.mem_append_left _ (by assumption) | apply List.mem_cons_of_mem | apply List.mem_append_right)) | exact Sees.root (hR _ (by omega)) | exact Sees.own (RowsIn.mem (by repeat (first | exact RowsIn.here | exact RowsIn.last | apply RowsIn.there | apply RowsIn.thereS)) _ (by omega)) | exact Sees.own (WRowsIn.mem (by repeat (first | exact WRowsIn.here | exact WRowsIn.last | apply WRowsIn.there | apply WRowsIn.thereS)) _ (by omega))) (by first | (rw [missL_length, dX_length]; show i < 3; omega) | (rw [wantL_length]; omega) | (show i < 3; omega))) ?_
      refine VL.q (.inl rfl) rfl (by decide) (yq_callf rfl known10_Wk (.cons rfl (.cons rfl .nil)) (fun w hw => (c_fieldSE (ws := (setW ws28 xs42)) (by first | exact Sees.root (by assumption) w hw | exact Sees.own (by repeat (first | exact List.mem_cons_self | exact List.mem_append_left _ (by assumption) | apply List.mem_cons_of_mem | apply List.mem_append_right)) w hw) (by first | exact WRws.root (by assumption) hw | exact WRws.own (by repeat (first | exact WRowsIn.here | exact WRowsIn.last | apply WRowsIn.there | apply WRowsIn.thereS)) hw) (by omega) hD.wo (hD.ff (by omega)).1 (hD.ff (by omega)).2))) ?_
      refine VL.r (.inl rfl) rfl (by decide) (yr_move rfl rfl) ?_
      refine VL.r (.inl rfl) rfl (by decide) (yr_extract rfl rfl rfl (by nofun)) ?_
      refine VL.r (.inl rfl) rfl (by decide) (yr_extract rfl rfl rfl (by nofun)) ?_
      refine VL.new1 (.inl rfl) rfl (by decide) (yn_alloc rfl zero28_Wk rfl) ?_
      intro b13
      refine VL.s (.inl rfl) rfl (yc_store rfl sz28_Wk rfl rfl (by repeat (first | exact UpdF.here | apply UpdF.there | apply UpdF.thereS)) (.inr ⟨rfl, rfl⟩) rfl (by first | exact Nat.le_of_ble_eq_true rfl | simp) (by decide) rfl) ?_
      rintro ⟨⟩
      refine VL.r (.inl rfl) rfl (by decide) (yr_assign rfl rfl) ?_
      refine VL.nil ?_
      refine VE.then_wp ?_
      refine V.seq ?_
      refine V.seq ?_
      refine V.region ?_
      refine VL.r (.inl rfl) rfl (by decide) (yr_move rfl rfl) ?_
      refine VL.r (.inl rfl) rfl (by decide) (yr_not rfl rfl) ?_
      refine VL.nil ?_
      refine VE.then_wp ?_
      refine V.cond rfl (fun h3 => ?_) (fun h3 => ?_)
      · skip
        replace h3 := bnot_t h3
        first | cases h3 | (simp at h3; done)
      · skip
        replace h3 := bnot_f h3
        refine V.skip ?_
        refine VE.then_wp ?_
        refine V.region ?_
        refine VL.r (.inl rfl) rfl (by decide) (yr_move rfl rfl) ?_
        refine VL.q (.inl rfl) rfl (by decide) (yq_loadS rfl Try.underlying28 sz28_Wk rfl (by first | exact Sees.root (by assumption) | exact Sees.own (by repeat (first | exact List.mem_cons_self | exact List.mem_append_left _ (by assumption) | apply List.mem_cons_of_mem | apply List.mem_append_right)) | exact Sees.root (hR _ (by omega)) | exact Sees.own (RowsIn.mem (by repeat (first | exact RowsIn.here | exact RowsIn.last | apply RowsIn.there | apply RowsIn.thereS)) _ (by omega)) | exact Sees.own (WRowsIn.mem (by repeat (first | exact WRowsIn.here | exact WRowsIn.last | apply WRowsIn.there | apply WRowsIn.thereS)) _ (by omega))) rfl rfl rfl) ?_
        refine VL.q (.inl rfl) rfl (by decide) (yq_loadS rfl Try.underlying28 sz28_Wk rfl (by first | exact Sees.root (by assumption) | exact Sees.own (by repeat (first | exact List.mem_cons_self | exact List.mem_append_left _ (by assumption) | apply List.mem_cons_of_mem | apply List.mem_append_right)) | exact Sees.root (hR _ (by omega)) | exact Sees.own (RowsIn.mem (by repeat (first | exact RowsIn.here | exact RowsIn.last | apply RowsIn.there | apply RowsIn.thereS)) _ (by omega)) | exact Sees.own (WRowsIn.mem (by repeat (first | exact WRowsIn.here | exact WRowsIn.last | apply WRowsIn.there | apply WRowsIn.thereS)) _ (by omega))) rfl rfl rfl) ?_
        refine VL.q (.inl rfl) rfl (by decide) (yq_callf rfl known11_Wk (.cons rfl (.cons rfl .nil)) (fun w hw => c_innerS)) ?_
        refine VL.new1 (.inl rfl) rfl (by decide) (yn_lit rfl Try.underlying32 elt26_Wk rfl (by decide) (.cons rfl .nil) (by first | (simp; done) | (simp [cn, cn1, cn0]; done)) rfl rfl rfl) ?_
        intro b70
        refine VL.c (.inl rfl) rfl (by decide) (yc_appendz 1 rfl rfl Try.underlying32 elt26_Wk rfl rfl (by repeat (first | exact UpdF.here | apply UpdF.there | apply UpdF.thereS)) (by first | exact Sees.root (by assumption) | exact Sees.own (by repeat (first | exact List.mem_cons_self | exact List.mem_append_left _ (by assumption) | apply List.mem_cons_of_mem | apply List.mem_append_right)) | exact Sees.root (hR _ (by omega)) | exact Sees.own (RowsIn.mem (by repeat (first | exact RowsIn.here | exact RowsIn.last | apply RowsIn.there | apply RowsIn.thereS)) _ (by omega)) | exact Sees.own (WRowsIn.mem (by repeat (first | exact WRowsIn.here | exact WRowsIn.last | apply WRowsIn.there | apply WRowsIn.thereS)) _ (by omega))) rfl (by rw [fl_length, wantL_length, Nat.mul_one]) rfl (by first | rfl | exact fl_scal _) rfl (by (try dsimp only); omega) (by (try dsimp only); omega)) ?_
        rintro ⟨a71, c71⟩
        refine VL.r (.inl rfl) rfl (by decide) (yr_assign rfl rfl) ?_
        refine VL.nil ?_
        refine VE.block_normal ?_
        refine VE.then_wp ?_
        refine V.region ?_
        refine VL.r (.inl rfl) rfl (by decide) (yr_int rfl rfl rfl (.inl ⟨rfl, wrap_in (by omega)⟩)) ?_
        refine VL.r (.inl rfl) rfl (by decide) (yr_move rfl rfl) ?_
        refine VL.nil ?_
        refine VE.round (i + 1, a71, c71) ?_ ?_ ?_ ?_ ?_
        · exact (.cons rfl (.cons rfl .nil))
        · exact (.cons rfl (.cons rfl (.cons rfl (.cons rfl (.cons rfl (.cons rfl (.cons rfl .nil)))))))
        · exact (fun w hw => by dsimp only; rw [← wantL_fl]; unfold wantAt; exact hw.pick (by apply Pick.cons1; (· repeat (first | exact Rem.here | exact Rem.all | exact Rem.hereS | apply Rem.there | apply Rem.thereS)); apply Pick.cons1; (· repeat (first | exact Rem.here | exact Rem.all | exact Rem.hereS | apply Rem.there | apply Rem.thereS)); apply Pick.app1; (· repeat (first | exact Rem.here | exact Rem.all | exact Rem.hereS | apply Rem.there | apply Rem.thereS)); apply Pick.cons1; (· repeat (first | exact Rem.here | exact Rem.all | exact Rem.hereS | apply Rem.there | apply Rem.thereS)); apply Pick.cons1; (· repeat (first | exact Rem.here | exact Rem.all | exact Rem.hereS | apply Rem.there | apply Rem.thereS)); apply Pick.cons1; (· repeat (first | exact Rem.here | exact Rem.all | exact Rem.hereS | apply Rem.there | apply Rem.thereS)); apply Pick.cons1; (· repeat (first | exact Rem.here | exact Rem.all | exact Rem.hereS | apply Rem.there | apply Rem.thereS)); apply Pick.last; repeat (first | exact Rem.here | exact Rem.all | exact Rem.hereS | apply Rem.there | apply Rem.thereS)))
        · (try dsimp only); omega
        · (try dsimp only); omega
    · skip
      replace h2 := ic_lss' h2
      obtain rfl : i = 3 := by omega
      refine V.exit ?_
      refine VE.then_exit ?_
      refine VE.then_exit ?_
      refine VE.block_here ?_
      refine VE.then_wp ?_
      refine V.seq ?_
      refine V.region ?_
      refine VL.r (.inl rfl) rfl (by decide) (yr_move rfl rfl) ?_
      refine VL.r (.inl rfl) rfl (by decide) (yr_move rfl rfl) ?_
      refine VL.q (.inl rfl) rfl (by decide) (yq_loadS rfl Try.underlying28 sz28_Wk rfl (by first | exact Sees.root (by assumption) | exact Sees.own (by repeat (first | exact List.mem_cons_self | exact List.mem_append_left _ (by assumption) | apply List.mem_cons_of_mem | apply List.mem_append_right)) | exact Sees.root (hR _ (by omega)) | exact Sees.own (RowsIn.mem (by repeat (first | exact RowsIn.here | exact RowsIn.last | apply RowsIn.there | apply RowsIn.thereS)) _ (by omega)) | exact Sees.own (WRowsIn.mem (by repeat (first | exact WRowsIn.here | exact WRowsIn.last | apply WRowsIn.there | apply WRowsIn.thereS)) _ (by omega))) rfl rfl rfl) ?_
      refine VL.r (.inl rfl) rfl (by decide) (yr_move rfl rfl) ?_
      refine VL.new (.inl rfl) rfl (by decide) (yn_callf rfl known12_Wk (.cons rfl (.cons rfl (.cons rfl (.cons rfl .nil)))) (fun w hw => (c_dsnE (ws := ws28) (vs := [(f30, g30, h30), (f32, g32, h32), (0, 0, 1056964608)]) (xs := (wantL ws28 xs42 [(f30, g30, h30), (f32, g32, h32), (0, 0, 1056964608)] (FloatKind.f32.nearest (x36 : Int), 0, 1065353216) 3)) (by first | exact Sees.root (by assumption) w hw | exact Sees.own (by repeat (first | exact List.mem_cons_self | exact List.mem_append_left _ (by assumption) | apply List.mem_cons_of_mem | apply List.mem_append_right)) w hw) (by first | exact WRws.root (by assumption) hw | exact WRws.own (by repeat (first | exact WRowsIn.here | exact WRowsIn.last | apply WRowsIn.there | apply WRowsIn.thereS)) hw) (by omega) (by first | exact Sees.root (by assumption) w hw | exact Sees.own (by repeat (first | exact List.mem_cons_self | exact List.mem_append_left _ (by assumption) | apply List.mem_cons_of_mem | apply List.mem_append_right)) w hw) rfl (by first | exact Sees.root (by assumption) w hw | exact Sees.own (by repeat (first | exact List.mem_cons_self | exact List.mem_append_left _ (by assumption) | apply List.mem_cons_of_mem | apply List.mem_append_right)) w hw) wantL_length hD.ds))) ?_
      rintro ⟨⟨⟨a78, c78⟩, f78⟩, ⟨p78, q78⟩, ⟨r78, s78⟩⟩
      refine VL.r (.inl rfl) rfl (by decide) (yr_move rfl rfl) ?_
      refine VL.r (.inl rfl) rfl (by decide) (yr_extract rfl rfl rfl (by nofun)) ?_
      refine VL.r (.inl rfl) rfl (by decide) (yr_extract rfl rfl rfl (by nofun)) ?_
      refine VL.new1 (.inl rfl) rfl (by decide) (yn_alloc rfl zero41_Wk rfl) ?_
      intro b15
      refine VL.s (.inl rfl) rfl (yc_store rfl sz41_Wk rfl rfl (by repeat (first | exact UpdF.here | apply UpdF.there | apply UpdF.thereS)) (.inr ⟨rfl, rfl⟩) rfl (by first | exact Nat.le_of_ble_eq_true rfl | simp) (by decide) rfl) ?_
      rintro ⟨⟩
      refine VL.r (.inl rfl) rfl (by decide) (yr_assign rfl rfl) ?_
      refine VL.nil ?_
      refine VE.then_wp ?_
      refine V.seq ?_
      refine V.region ?_
      refine VL.q (.inl rfl) rfl (by decide) (yq_loadS rfl Try.underlying41 sz41_Wk rfl (by first | exact Sees.root (by assumption) | exact Sees.own (by repeat (first | exact List.mem_cons_self | exact List.mem_append_left _ (by assumption) | apply List.mem_cons_of_mem | apply List.mem_append_right)) | exact Sees.root (hR _ (by omega)) | exact Sees.own (RowsIn.mem (by repeat (first | exact RowsIn.here | exact RowsIn.last | apply RowsIn.there | apply RowsIn.thereS)) _ (by omega)) | exact Sees.own (WRowsIn.mem (by repeat (first | exact WRowsIn.here | exact WRowsIn.last | apply WRowsIn.there | apply WRowsIn.thereS)) _ (by omega))) rfl rfl rfl) ?_
      refine VL.r (.inl rfl) rfl (by decide) (yr_move rfl rfl) ?_
      refine VL.new1 (.inl rfl) rfl (by decide) (yn_callf rfl known13_Wk (.cons rfl (.cons rfl .nil)) (fun w hw => (c_missE (x := xs42) (xss := (dX ws28 [(f30, g30, h30), (f32, g32, h32), (0, 0, 1056964608)] (FloatKind.f32.nearest (x36 : Int), 0, 1065353216))) (ws := (wantL ws28 xs42 [(f30, g30, h30), (f32, g32, h32), (0, 0, 1056964608)] (FloatKind.f32.nearest (x36 : Int), 0, 1065353216) 3)) (gs := dG ([(f30, g30, h30), (f32, g32, h32), (0, 0, 1056964608)]).length) (by first | exact Sees.root (by assumption) w hw | exact Sees.own (by repeat (first | exact List.mem_cons_self | exact List.mem_append_left _ (by assumption) | apply List.mem_cons_of_mem | apply List.mem_append_right)) w hw) (by first | exact Rws.root (by assumption) hw | exact Rws.own (by repeat (first | exact RowsIn.here | exact RowsIn.last | apply RowsIn.there | apply RowsIn.thereS)) hw) (by first | exact Sees.root (by assumption) w hw | exact Sees.own (by repeat (first | exact List.mem_cons_self | exact List.mem_append_left _ (by assumption) | apply List.mem_cons_of_mem | apply List.mem_append_right)) w hw) (by first | exact Sees.root (by assumption) w hw | exact Sees.own (by repeat (first | exact List.mem_cons_self | exact List.mem_append_left _ (by assumption) | apply List.mem_cons_of_mem | apply List.mem_append_right)) w hw) (by first | exact Sees.root (by assumption) w hw | exact Sees.own (by repeat (first | exact List.mem_cons_self | exact List.mem_append_left _ (by assumption) | apply List.mem_cons_of_mem | apply List.mem_append_right)) w hw) (by rw [wantL_length, dG_length]; show bulk (dX ws28 [(f30, g30, h30), (f32, g32, h32), (0, 0, 1056964608)] (FloatKind.f32.nearest (x36 : Int), 0, 1065353216)) + 3 + 3 ≤ 1050000; omega) (by rw [dX_length]; rfl) wantL_length (by rw [dG_length]; rfl) hD.fits))) ?_
      rintro ⟨a84, c84⟩
      refine VL.r (.inl rfl) rfl (by decide) (yr_move rfl rfl) ?_
      refine VL.r (.inl rfl) rfl (by decide) (yr_extract rfl rfl rfl (by nofun)) ?_
      refine VL.r (.inl rfl) rfl (by decide) (yr_extract rfl rfl rfl (by nofun)) ?_
      refine VL.r (.inl rfl) rfl (by decide) (yr_assign rfl rfl) ?_
      refine VL.r (.inl rfl) rfl (by decide) (yr_assign rfl rfl) ?_
      refine VL.nil ?_
      refine VE.then_wp ?_
      refine V.seq ?_
      refine V.draw [(0, 0), (1, 0), (2, 0), (3, 0), (4, 0), (5, 0), (6, 0), (7, 0), (8, 0), (9, 0)] mixed_Wk (by kernel_rfl) (by intro j o hj; simp at hj) ?_
      refine SW.r rfl (.inl rfl) rfl (by decide) (yr_move rfl rfl) ?_
      refine SW.r rfl (.inl rfl) rfl (by decide) (yr_move rfl rfl) ?_
      refine SW.r rfl (.inl rfl) rfl (by decide) (yr_is (u' := .slice (some ⟨b34, 0, none⟩) 1 3) (by rw [slA_zero]) (yr_slice (a := some ⟨b34, 0, none⟩) (m := 3) (c := 3) (l := 0) (hh := 1) (mm := 3) (z := 3) rfl Try.underlying30 sz28_Wk rfl OptI.no (OptI.at rfl rfl) OptI.no (Nat.le_refl _) (by decide) (Nat.zero_le _) (.inl rfl) (fun h => by cases h))) ?_
      refine SW.q rfl (.inl rfl) rfl (by decide) (yq_loadS rfl Try.underlying28 sz28_Wk rfl (by first | exact Sees.root (by assumption) | exact Sees.own (by repeat (first | exact List.mem_cons_self | exact List.mem_append_left _ (by assumption) | apply List.mem_cons_of_mem | apply List.mem_append_right)) | exact Sees.root (hR _ (by omega)) | exact Sees.own (RowsIn.mem (by repeat (first | exact RowsIn.here | exact RowsIn.last | apply RowsIn.there | apply RowsIn.thereS)) _ (by omega)) | exact Sees.own (WRowsIn.mem (by repeat (first | exact WRowsIn.here | exact WRowsIn.last | apply WRowsIn.there | apply WRowsIn.thereS)) _ (by omega))) rfl rfl rfl) ?_
      refine SW.q rfl (.inl rfl) rfl (by decide) (yq_callf rfl known14_Wk (.cons rfl (.cons rfl (.cons rfl .nil))) (fun w hw => (c_flatE (y1 := FloatKind.f32.nearest (x36 : Int)) (y2 := 0) (y3 := 1065353216) (ws := (setW ws28 xs42)) (vs := [(f30, g30, h30)]) (n := 1) (by first | exact Sees.root (by assumption) w hw | exact Sees.own (by repeat (first | exact List.mem_cons_self | exact List.mem_append_left _ (by assumption) | apply List.mem_cons_of_mem | apply List.mem_append_right)) w hw) (by first | exact WRws.root (by assumption) hw | exact WRws.own (by repeat (first | exact WRowsIn.here | exact WRowsIn.last | apply WRowsIn.there | apply WRowsIn.thereS)) hw) (by omega) ((show Cl _ _ (vl [(f30, g30, h30), (f32, g32, h32), (0, 0, 1056964608)]) from (by first | exact Sees.root (by assumption) w hw | exact Sees.own (by repeat (first | exact List.mem_cons_self | exact List.mem_append_left _ (by assumption) | apply List.mem_cons_of_mem | apply List.mem_append_right)) w hw)).sub _ vl_one) rfl (by decide) hD.fl1'.1))) ?_
      refine SW.r rfl (.inl rfl) rfl (by decide) (yr_move rfl rfl) ?_
      refine SW.r rfl (.inl rfl) rfl (by decide) (yr_extract rfl rfl rfl (by nofun)) ?_
      refine SW.r rfl (.inl rfl) rfl (by decide) (yr_extract rfl rfl rfl (by nofun)) ?_
      refine SW.r rfl (.inl rfl) rfl (by decide) (yr_assign rfl rfl) ?_
      refine SW.r rfl (.inl rfl) rfl (by decide) (yr_assign rfl rfl) ?_
      refine SW.done ?_
      refine VE.then_wp ?_
      refine V.seq ?_
      refine V.region ?_
      refine VL.r (.inl rfl) rfl (by decide) (yr_move rfl rfl) ?_
      refine VL.r (.inl rfl) rfl (by decide) (yr_move rfl rfl) ?_
      refine VL.q (.inl rfl) rfl (by decide) (yq_loadS rfl Try.underlying28 sz28_Wk rfl (by first | exact Sees.root (by assumption) | exact Sees.own (by repeat (first | exact List.mem_cons_self | exact List.mem_append_left _ (by assumption) | apply List.mem_cons_of_mem | apply List.mem_append_right)) | exact Sees.root (hR _ (by omega)) | exact Sees.own (RowsIn.mem (by repeat (first | exact RowsIn.here | exact RowsIn.last | apply RowsIn.there | apply RowsIn.thereS)) _ (by omega)) | exact Sees.own (WRowsIn.mem (by repeat (first | exact WRowsIn.here | exact WRowsIn.last | apply WRowsIn.there | apply WRowsIn.thereS)) _ (by omega))) rfl rfl rfl) ?_
      refine VL.q (.inl rfl) rfl (by decide) (yq_callf rfl known14_Wk (.cons rfl (.cons rfl (.cons rfl .nil))) (fun w hw => (c_flatE (y1 := FloatKind.f32.nearest (x36 : Int)) (y2 := 0) (y3 := 1065353216) (ws := (setW ws28 xs42)) (vs := [(f30, g30, h30), (f32, g32, h32), (0, 0, 1056964608)]) (n := 3) (by first | exact Sees.root (by assumption) w hw | exact Sees.own (by repeat (first | exact List.mem_cons_self | exact List.mem_append_left _ (by assumption) | apply List.mem_cons_of_mem | apply List.mem_append_right)) w hw) (by first | exact WRws.root (by assumption) hw | exact WRws.own (by repeat (first | exact WRowsIn.here | exact WRowsIn.last | apply WRowsIn.there | apply WRowsIn.thereS)) hw) (by omega) (by first | exact Sees.root (by assumption) w hw | exact Sees.own (by repeat (first | exact List.mem_cons_self | exact List.mem_append_left _ (by assumption) | apply List.mem_cons_of_mem | apply List.mem_append_right)) w hw) rfl (by decide) hD.fl3.1))) ?_
      refine VL.r (.inl rfl) rfl (by decide) (yr_move rfl rfl) ?_
      refine VL.r (.inl rfl) rfl (by decide) (yr_extract rfl rfl rfl (by nofun)) ?_
      refine VL.r (.inl rfl) rfl (by decide) (yr_extract rfl rfl rfl (by nofun)) ?_
      refine VL.r (.inl rfl) rfl (by decide) (yr_assign rfl rfl) ?_
      refine VL.r (.inl rfl) rfl (by decide) (yr_assign rfl rfl) ?_
      refine VL.nil ?_
      refine VE.then_wp ?_
      refine V.seq ?_
      refine V.seq ?_
      refine V.region ?_
      refine VL.r (.inl rfl) rfl (by decide) (yr_move rfl rfl) ?_
      refine VL.r (.inl rfl) rfl (by decide) (yr_not rfl rfl) ?_
      refine VL.r (.inl rfl) rfl (by decide) (yr_move rfl rfl) ?_
      refine VX.split 104 _ rfl (fun h4 => ?_) (fun h4 => ?_)
      · skip
        replace h4 := bnot_t h4
        first | cases h4 | (simp at h4; done)
      · skip
        replace h4 := bnot_f h4
        refine VL.r (.inr ⟨_, _, _, rfl, rfl, rfl⟩) rfl (by decide) (yr_move rfl rfl) ?_
        refine VL.r (.inr ⟨_, _, _, rfl, rfl, rfl⟩) rfl (by decide) (yr_not rfl rfl) ?_
        refine VL.r (.inl rfl) rfl (by decide) (yr_pick_f rfl rfl rfl) ?_
        refine VL.r (.inl rfl) rfl (by decide) (yr_move rfl rfl) ?_
        refine VX.split 108 _ rfl (fun h5 => ?_) (fun h5 => ?_)
        · skip
          replace h5 := bnot_t h5
          first | cases h5 | (simp at h5; done)
        · skip
          replace h5 := bnot_f h5
          refine VL.r (.inr ⟨_, _, _, rfl, rfl, rfl⟩) rfl (by decide) (yr_move rfl rfl) ?_
          refine VL.r (.inr ⟨_, _, _, rfl, rfl, rfl⟩) rfl (by decide) (yr_not rfl rfl) ?_
          refine VL.r (.inl rfl) rfl (by decide) (yr_pick_f rfl rfl rfl) ?_
          refine VL.r (.inl rfl) rfl (by decide) (yr_move rfl rfl) ?_
          refine VX.split 112 _ rfl (fun h6 => ?_) (fun h6 => ?_)
          · skip
            replace h6 := bnot_t h6
            first | cases h6 | (simp at h6; done)
          · skip
            replace h6 := bnot_f h6
            refine VL.r (.inr ⟨_, _, _, rfl, rfl, rfl⟩) rfl (by decide) (yr_move rfl rfl) ?_
            refine VL.r (.inr ⟨_, _, _, rfl, rfl, rfl⟩) rfl (by decide) (yr_not rfl rfl) ?_
            refine VL.r (.inl rfl) rfl (by decide) (yr_pick_f rfl rfl rfl) ?_
            refine VL.r (.inl rfl) rfl (by decide) (yr_move rfl rfl) ?_
            refine VX.split 116 _ rfl (fun h7 => ?_) (fun h7 => ?_)
            · skip
              replace h7 := bnot_t h7
              first | cases h7 | (simp at h7; done)
            · skip
              replace h7 := bnot_f h7
              refine VL.r (.inr ⟨_, _, _, rfl, rfl, rfl⟩) rfl (by decide) (yr_move rfl rfl) ?_
              refine VL.r (.inr ⟨_, _, _, rfl, rfl, rfl⟩) rfl (by decide) (yr_not rfl rfl) ?_
              refine VL.r (.inl rfl) rfl (by decide) (yr_pick_f rfl rfl rfl) ?_
              refine VL.r (.inl rfl) rfl (by decide) (yr_move rfl rfl) ?_
              refine VX.split 120 _ rfl (fun h8 => ?_) (fun h8 => ?_)
              · skip
                replace h8 := bnot_t h8
                first | cases h8 | (simp at h8; done)
              · skip
                replace h8 := bnot_f h8
                refine VL.r (.inr ⟨_, _, _, rfl, rfl, rfl⟩) rfl (by decide) (yr_move rfl rfl) ?_
                refine VL.r (.inr ⟨_, _, _, rfl, rfl, rfl⟩) rfl (by decide) (yr_fcmp (b := 0) rfl (.inr (.inl rfl)) rfl rfl) ?_
                refine VL.r (.inl rfl) rfl (by decide) (yr_pick_f rfl rfl rfl) ?_
                refine VL.r (.inl rfl) rfl (by decide) (yr_move rfl rfl) ?_
                refine VX.split 124 _ rfl (fun h9 => ?_) (fun h9 => ?_)
                · skip
                  exact absurd h9 (Bool.eq_false_iff.1 hD.fl1'.2)
                · skip
                  refine VL.r (.inr ⟨_, _, _, rfl, rfl, rfl⟩) rfl (by decide) (yr_move rfl rfl) ?_
                  refine VL.r (.inr ⟨_, _, _, rfl, rfl, rfl⟩) rfl (by decide) (yr_fcmp (b := 0) rfl (.inr (.inr (.inl rfl))) rfl rfl) ?_
                  refine VL.r (.inl rfl) rfl (by decide) (yr_pick_f rfl rfl rfl) ?_
                  refine VL.r (.inl rfl) rfl (by decide) (yr_move rfl rfl) ?_
                  refine VX.split 128 _ rfl (fun h10 => ?_) (fun h10 => ?_)
                  · skip
                    exact absurd h10 (Bool.eq_false_iff.1 hD.fl3.2)
                  · skip
                    refine VL.r (.inr ⟨_, _, _, rfl, rfl, rfl⟩) rfl (by decide) (yr_move rfl rfl) ?_
                    refine VL.r (.inr ⟨_, _, _, rfl, rfl, rfl⟩) rfl (by decide) (yr_len rfl Try.underlying32 rfl) ?_
                    refine VL.r (.inr ⟨_, _, _, rfl, rfl, rfl⟩) rfl (by decide) (yr_icmp rfl (.inr (.inl rfl)) rfl rfl) ?_
                    refine VL.r (.inl rfl) rfl (by decide) (yr_pick_f rfl rfl rfl) ?_
                    refine VL.nil ?_
                    refine VE.then_wp ?_
                    refine V.cond rfl (fun h11 => ?_) (fun h11 => ?_)
                    · skip
                      replace h11 := ic_neq h11
                      first | cases h11 | (simp at h11; done)
                    · skip
                      replace h11 := ic_neq' h11
                      refine V.skip ?_
                      refine VE.then_wp ?_
                      refine V.seq ?_
                      refine V.seq ?_
                      refine V.region ?_
                      refine VL.r (.inl rfl) rfl (by decide) (yr_move rfl rfl) ?_
                      refine VL.r (.inl rfl) rfl (by decide) (yr_len rfl Try.underlying32 rfl) ?_
                      refine VL.r (.inl rfl) rfl (by decide) (yr_move (u := .int .i64 0) rfl rfl) ?_
                      refine VL.nil ?_
                      refine VE.then_wp ?_
                      refine V.block ?_
                      refine V.loops (G := Nat) [(11, _), (17, _), (134, _)] (fun (i : Nat) => i ≤ 3) (fun (i : Nat) => [(135, .int .i64 (i : Int))]) (fun (i : Nat) => 3 - i) 0 (.cons rfl (.cons rfl (.cons rfl .nil))) (.cons rfl .nil) ?_ ?_
                      · exact (Nat.zero_le _)
                      rintro i hi9
                      show V _ _ _ _ ([(135, .int .i64 (i : Int))] ++ [(11, _), (17, _), (134, _)]) _ _
                      refine V.seq ?_
                      refine V.region ?_
                      refine VL.r (.inl rfl) rfl (by decide) (yr_icmp rfl (.inr (.inr (.inl rfl))) rfl rfl) ?_
                      refine VL.nil ?_
                      refine VE.then_wp ?_
                      refine V.seq ?_
                      refine V.cond rfl (fun h12 => ?_) (fun h12 => ?_)
                      · skip
                        replace h12 := ic_lss h12
                        refine V.skip ?_
                        refine VE.then_wp ?_
                        refine V.seq ?_
                        refine V.block ?_
                        refine V.seq ?_
                        refine V.region ?_
                        refine VL.r (.inl rfl) rfl (by decide) (yr_move rfl rfl) ?_
                        refine VL.r (.inl rfl) rfl (by decide) (yr_assign rfl rfl) ?_
                        refine VL.nil ?_
                        refine VE.then_wp ?_
                        refine V.seq ?_
                        refine V.draw [(0, 0), (1, 0), (2, 0), (3, 0), (4, 0), (5, 0), (6, 0), (7, 0), (8, 0), (9, 0), (10, 0), (11, 0), (12, 0), (13, 0), (14, 0)] mixed_Wk (by kernel_rfl) (by intro j o hj; simp at hj) ?_
                        refine SW.r rfl (.inl rfl) rfl (by decide) (yr_move rfl rfl) ?_
                        refine SW.r rfl (.inl rfl) rfl (by decide) (yr_move rfl rfl) ?_
                        refine SW.q rfl (.inl rfl) rfl (by decide) (yq_idx (k := i) rfl Try.underlying32 sz26_Wk rfl rfl (by first | exact Sees.root (by assumption) | exact Sees.own (by repeat (first | exact List.mem_cons_self | exact List.mem_append_left _ (by assumption) | apply List.mem_cons_of_mem | apply List.mem_append_right)) | exact Sees.root (hR _ (by omega)) | exact Sees.own (RowsIn.mem (by repeat (first | exact RowsIn.here | exact RowsIn.last | apply RowsIn.there | apply RowsIn.thereS)) _ (by omega)) | exact Sees.own (WRowsIn.mem (by repeat (first | exact WRowsIn.here | exact WRowsIn.last | apply WRowsIn.there | apply WRowsIn.thereS)) _ (by omega))) (by first | rfl | omega | (push_cast; rfl) | (push_cast; omega) | exact tmod_nat _ _) (by first | (rw [fl_length, missL_length, dX_length]; rfl) | (rw [fl_length, wantL_length])) (by first | (rw [missL_length, dX_length]; show i < 3; omega) | (rw [wantL_length]; omega) | (show i < 3; omega))) ?_
                        refine SW.q rfl (.inl rfl) rfl (by decide) (yq_loadF rfl fb26_Wk rfl (by first | exact Sees.root (by assumption) | exact Sees.own (by repeat (first | exact List.mem_cons_self | exact List.mem_append_left _ (by assumption) | apply List.mem_cons_of_mem | apply List.mem_append_right)) | exact Sees.root (hR _ (by omega)) | exact Sees.own (RowsIn.mem (by repeat (first | exact RowsIn.here | exact RowsIn.last | apply RowsIn.there | apply RowsIn.thereS)) _ (by omega)) | exact Sees.own (WRowsIn.mem (by repeat (first | exact WRowsIn.here | exact WRowsIn.last | apply WRowsIn.there | apply WRowsIn.thereS)) _ (by omega))) (by first | (rw [missL_length, dX_length]; show i < 3; omega) | (rw [wantL_length]; omega) | (show i < 3; omega))) ?_
                        refine SW.r rfl (.inl rfl) rfl (by decide) (yr_fconv rfl Try.underlying26 Try.underlying48 (by decide) rfl (fover_up _)) ?_
                        refine SW.q rfl (.inl rfl) rfl (by decide) (yq_callf rfl known15_Wk (.cons rfl (.cons rfl .nil)) (fun w hw => c_b10GapV)) ?_
                        refine SW.r rfl (.inl rfl) rfl (by decide) (yr_move rfl rfl) ?_
                        refine SW.r rfl (.inl rfl) rfl (by decide) (yr_move rfl rfl) ?_
                        refine SW.q rfl (.inl rfl) rfl (by decide) (yq_idx (k := i) rfl Try.underlying32 sz26_Wk rfl rfl (by first | exact Sees.root (by assumption) | exact Sees.own (by repeat (first | exact List.mem_cons_self | exact List.mem_append_left _ (by assumption) | apply List.mem_cons_of_mem | apply List.mem_append_right)) | exact Sees.root (hR _ (by omega)) | exact Sees.own (RowsIn.mem (by repeat (first | exact RowsIn.here | exact RowsIn.last | apply RowsIn.there | apply RowsIn.thereS)) _ (by omega)) | exact Sees.own (WRowsIn.mem (by repeat (first | exact WRowsIn.here | exact WRowsIn.last | apply WRowsIn.there | apply WRowsIn.thereS)) _ (by omega))) (by first | rfl | omega | (push_cast; rfl) | (push_cast; omega) | exact tmod_nat _ _) (by first | (rw [fl_length, missL_length, dX_length]; rfl) | (rw [fl_length, wantL_length])) (by first | (rw [missL_length, dX_length]; show i < 3; omega) | (rw [wantL_length]; omega) | (show i < 3; omega))) ?_
                        refine SW.q rfl (.inl rfl) rfl (by decide) (yq_loadF rfl fb26_Wk rfl (by first | exact Sees.root (by assumption) | exact Sees.own (by repeat (first | exact List.mem_cons_self | exact List.mem_append_left _ (by assumption) | apply List.mem_cons_of_mem | apply List.mem_append_right)) | exact Sees.root (hR _ (by omega)) | exact Sees.own (RowsIn.mem (by repeat (first | exact RowsIn.here | exact RowsIn.last | apply RowsIn.there | apply RowsIn.thereS)) _ (by omega)) | exact Sees.own (WRowsIn.mem (by repeat (first | exact WRowsIn.here | exact WRowsIn.last | apply WRowsIn.there | apply WRowsIn.thereS)) _ (by omega))) (by first | (rw [missL_length, dX_length]; show i < 3; omega) | (rw [wantL_length]; omega) | (show i < 3; omega))) ?_
                        refine SW.r rfl (.inl rfl) rfl (by decide) (yr_fconv rfl Try.underlying26 Try.underlying48 (by decide) rfl (fover_up _)) ?_
                        refine SW.q rfl (.inl rfl) rfl (by decide) (yq_callf rfl known15_Wk (.cons rfl (.cons rfl .nil)) (fun w hw => c_b10GapV)) ?_
                        refine SW.r rfl (.inl rfl) rfl (by decide) (yr_float (a := 4607182418800017408) rfl (.inl rfl) rfl rfl) ?_
                        refine SW.r rfl (.inl rfl) rfl (by decide) (yr_float (a := 4576918229304087675) rfl (.inr (.inr (.inl rfl))) rfl rfl) ?_
                        refine SW.r rfl (.inl rfl) rfl (by decide) (yr_fcmp rfl (.inr (.inr (.inr (.inr (.inl rfl))))) rfl rfl) ?_
                        refine SW.done ?_
                        refine VE.then_wp ?_
                        refine V.cond rfl (fun h13 => ?_) (fun h13 => ?_)
                        · skip
                          exact absurd h13 (Bool.eq_false_iff.1 (hD.miss (by omega)))
                        · skip
                          refine V.skip ?_
                          refine VE.block_normal ?_
                          refine VE.then_wp ?_
                          refine V.region ?_
                          refine VL.r (.inl rfl) rfl (by decide) (yr_int rfl rfl rfl (.inl ⟨rfl, wrap_in (by omega)⟩)) ?_
                          refine VL.r (.inl rfl) rfl (by decide) (yr_move rfl rfl) ?_
                          refine VL.nil ?_
                          refine VE.round (i + 1) ?_ ?_ ?_ ?_ ?_
                          · exact (.cons rfl .nil)
                          · exact (.cons rfl (.cons rfl (.cons rfl .nil)))
                          · exact (fun w hw => hw)
                          · (try dsimp only); omega
                          · (try dsimp only); omega
                      · skip
                        replace h12 := ic_lss' h12
                        refine V.exit ?_
                        refine VE.then_exit ?_
                        refine VE.then_exit ?_
                        refine VE.block_here ?_
                        refine VE.then_wp ?_
                        refine V.seq ?_
                        refine V.region ?_
                        refine VL.r (.inl rfl) rfl (by decide) (yr_assign (u := .bool true) rfl rfl) ?_
                        refine VL.nil ?_
                        refine VE.then_wp ?_
                        refine V.ret ?_
                        refine ret1 rfl rfl (fun w1 hw => ?_)
                        exact ⟨rfl, hw.below⟩

end Go.Proofs.Ytnclpojljgpadaa

