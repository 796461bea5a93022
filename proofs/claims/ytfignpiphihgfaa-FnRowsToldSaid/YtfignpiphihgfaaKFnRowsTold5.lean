/- Own texts of this claim, merged: WRt. -/
import Derived.KernelRfl
import Derived.Test.YtfignpiphihgfaaKFnRowsTold4
namespace Go.Proofs.Ytfignpiphihgfaa
open Go.RowKit
set_option linter.unusedVariables false
set_option linter.unusedSimpArgs false
set_option maxRecDepth 20000

theorem known33_Rt : Known Try.prog 33 := Known.mk' Try.func33 (by kernel_rfl)
theorem known34_Rt : Known Try.prog 34 := Known.mk' Try.func34 (by kernel_rfl)
theorem zero46_Rt : (Try.prog.info? 46).bind (·.zero) = some (Value.agg #[Value.slice none 0 0, Value.slice none 0 0, Value.slice none 0 0]) := by kernel_rfl
theorem sz46_Rt : (Try.prog.info? 46).map (·.size) = some 3 := by kernel_rfl
theorem sz41_Rt : (Try.prog.info? 41).map (·.size) = some 1 := by kernel_rfl
theorem fb41_Rt : flatB Try.prog 41 = true := by kernel_rfl
theorem sz42_Rt : (Try.prog.info? 42).map (·.size) = some 1 := by kernel_rfl
theorem fb42_Rt : flatB Try.prog 42 = true := by kernel_rfl
theorem known35_Rt : Known Try.prog 35 := Known.mk' Try.func35 (by kernel_rfl)
theorem known36_Rt : Known Try.prog 36 := Known.mk' Try.func36 (by kernel_rfl)
theorem known37_Rt : Known Try.prog 37 := Known.mk' Try.func37 (by kernel_rfl)
theorem known22_Rt : Known Try.prog 22 := Known.mk' Try.func22 (by kernel_rfl)
theorem known30_Rt : Known Try.prog 30 := Known.mk' Try.func30 (by kernel_rfl)
theorem known38_Rt : Known Try.prog 38 := Known.mk' Try.func38 (by kernel_rfl)
theorem known39_Rt : Known Try.prog 39 := Known.mk' Try.func39 (by kernel_rfl)
theorem known40_Rt : Known Try.prog 40 := Known.mk' Try.func40 (by kernel_rfl)
theorem known27_Rt : Known Try.prog 27 := Known.mk' Try.func27 (by kernel_rfl)
theorem elt23_Rt : Elt Try.prog 23 [Value.float .f32 0] 4 := Elt.mk' (by kernel_rfl) (by decide)
theorem sz23_Rt : (Try.prog.info? 23).map (·.size) = some 1 := by kernel_rfl
theorem fb23_Rt : flatB Try.prog 23 = true := by kernel_rfl
attribute [local irreducible] fop fcmp fconv fneg fabs List.getD qw hqw w2w g2w squareD sqK mergeOk dropOk scaleOk fitsD mergeX mergeW mergeG dropX dropW dropG scaleX scaleW scaleG

theorem c_addE {w : World} {a a1 a2 : Option Addr} {c c1 c2 : Nat} {f : Nat → Option Addr × Nat} {xss : List (List Nat)} {ws gs : List Nat} {b : Option Addr} {d : Nat} {x : List Nat} {wt gt : Nat} (hA : Cl w a (hd f xss)) (hR : Rws w f xss) (hW : Cl w a1 (fl ws)) (hG : Cl w a2 (fl gs)) (hB : Cl w b (fl x)) (hsz : bulk xss + ws.length + gs.length ≤ 1050000) (hxn : x.length ≤ 1048576) (hok : mergeOk xss [x] ws gs [wt] [gt] = true) : New Try.prog 36 [.agg #[.slice a xss.length c, .slice a1 ws.length c1, .slice a2 gs.length c2], .slice b x.length d, .float .f32 wt, .float .f32 gt] w (fun (p : ((Option Addr × Nat) × (Nat → Option Addr × Nat)) × (Option Addr × Nat) × (Option Addr × Nat)) => .tuple #[.agg #[.slice p.1.1.1 (xss ++ [x]).length p.1.1.2, .slice p.2.1.1 (ws ++ [wt]).length p.2.1.2, .slice p.2.2.1 (gs ++ [gt]).length p.2.2.2], .bool true]) (fun p => ⟨p.2.2.1, fl (gs ++ [gt]), p.2.2.2 * 1, 23⟩ :: ⟨p.2.1.1, fl (ws ++ [wt]), p.2.1.2 * 1, 23⟩ :: ⟨p.1.1.1, hd p.1.2 (xss ++ [x]), p.1.1.2 * 1, 42⟩ :: rents 23 p.1.2 (xss ++ [x])) := by
  have h := c_implAdd (w := w) (a := a) (a1 := a1) (a2 := a2) (c := c) (c1 := c1) (c2 := c2) (f := f) (xss := xss) (ws := ws) (gs := gs) (b := b) (d := d) (x := x) (wt := wt) (gt := gt) hA hR hW hG hB hsz hxn
  rw [mergeX_yes hok, mergeW_yes hok, mergeG_yes hok, hok] at h
  exact h
theorem c_mergeE {w : World} {a a1 a2 : Option Addr} {c c1 c2 : Nat} {f : Nat → Option Addr × Nat} {xss : List (List Nat)} {ws gs : List Nat} {a' a1' a2' : Option Addr} {c' c1' c2' : Nat} {f' : Nat → Option Addr × Nat} {yss : List (List Nat)} {vs hs : List Nat} (hA : Cl w a (hd f xss)) (hR : Rws w f xss) (hW : Cl w a1 (fl ws)) (hG : Cl w a2 (fl gs)) (hA' : Cl w a' (hd f' yss)) (hR' : Rws w f' yss) (hW' : Cl w a1' (fl vs)) (hG' : Cl w a2' (fl hs)) (hsz : bulk xss + ws.length + gs.length ≤ 1050000) (hsz2 : bulk yss + vs.length + hs.length ≤ 1050000) (hok : mergeOk xss yss ws gs vs hs = true) : New Try.prog 22 [.agg #[.slice a xss.length c, .slice a1 ws.length c1, .slice a2 gs.length c2], .agg #[.slice a' yss.length c', .slice a1' vs.length c1', .slice a2' hs.length c2']] w (fun (p : ((Option Addr × Nat) × (Nat → Option Addr × Nat)) × (Option Addr × Nat) × (Option Addr × Nat)) => .tuple #[.agg #[.slice p.1.1.1 (xss ++ yss).length p.1.1.2, .slice p.2.1.1 (ws ++ vs).length p.2.1.2, .slice p.2.2.1 (gs ++ hs).length p.2.2.2], .bool true]) (fun p => ⟨p.2.2.1, fl (gs ++ hs), p.2.2.2 * 1, 23⟩ :: ⟨p.2.1.1, fl (ws ++ vs), p.2.1.2 * 1, 23⟩ :: ⟨p.1.1.1, hd p.1.2 (xss ++ yss), p.1.1.2 * 1, 42⟩ :: rents 23 p.1.2 (xss ++ yss)) := by
  have h := c_implMerge (w := w) (a := a) (a1 := a1) (a2 := a2) (c := c) (c1 := c1) (c2 := c2) (f := f) (xss := xss) (ws := ws) (gs := gs) (a' := a') (a1' := a1') (a2' := a2') (c' := c') (c1' := c1') (c2' := c2') (f' := f') (yss := yss) (vs := vs) (hs := hs) hA hR hW hG hA' hR' hW' hG' hsz hsz2
  rw [mergeX_yes hok, mergeW_yes hok, mergeG_yes hok, hok] at h
  exact h
theorem c_dropE {w : World} {a a1 a2 : Option Addr} {c c1 c2 : Nat} {f : Nat → Option Addr × Nat} {xss : List (List Nat)} {ws gs : List Nat} {j : Int} (hA : Cl w a (hd f xss)) (hR : Rws w f xss) (hW : Cl w a1 (fl ws)) (hG : Cl w a2 (fl gs)) (hsz : bulk xss + ws.length + gs.length ≤ 1050000) {yss : List (List Nat)} {vs hs : List Nat} (hok : dropOk xss ws gs j = true) (e1 : dropX xss ws gs j = yss) (e2 : dropW xss ws gs j = vs) (e3 : dropG xss ws gs j = hs) : New Try.prog 37 [.agg #[.slice a xss.length c, .slice a1 ws.length c1, .slice a2 gs.length c2], .int .i64 j] w (fun (p : ((Option Addr × Nat) × (Nat → Option Addr × Nat)) × (Option Addr × Nat) × (Option Addr × Nat)) => .tuple #[.agg #[.slice p.1.1.1 (yss).length p.1.1.2, .slice p.2.1.1 (vs).length p.2.1.2, .slice p.2.2.1 (hs).length p.2.2.2], .bool true]) (fun p => ⟨p.2.2.1, fl (hs), p.2.2.2 * 1, 23⟩ :: ⟨p.2.1.1, fl (vs), p.2.1.2 * 1, 23⟩ :: ⟨p.1.1.1, hd p.1.2 (yss), p.1.1.2 * 1, 42⟩ :: rents 23 p.1.2 (yss)) := by
  have h := c_implDrop (w := w) (a := a) (a1 := a1) (a2 := a2) (c := c) (c1 := c1) (c2 := c2) (f := f) (xss := xss) (ws := ws) (gs := gs) (j := j) hA hR hW hG hsz
  rw [e1, e2, e3, hok] at h
  exact h
theorem c_scaleE {w : World} {a a1 a2 : Option Addr} {c c1 c2 : Nat} {f : Nat → Option Addr × Nat} {xss : List (List Nat)} {ws gs : List Nat} {j : Int} {v : Nat} (hA : Cl w a (hd f xss)) (hR : Rws w f xss) (hW : Cl w a1 (fl ws)) (hG : Cl w a2 (fl gs)) (hsz : bulk xss + ws.length + gs.length ≤ 1050000) (hok : scaleOk xss ws gs j v = true) : New Try.prog 27 [.agg #[.slice a xss.length c, .slice a1 ws.length c1, .slice a2 gs.length c2], .int .i64 j, .float .f32 v] w (fun (p : ((Option Addr × Nat) × (Nat → Option Addr × Nat)) × (Option Addr × Nat) × (Option Addr × Nat)) => .tuple #[.agg #[.slice p.1.1.1 (mixS j.toNat v xss xss.length).length p.1.1.2, .slice p.2.1.1 (ws).length p.2.1.2, .slice p.2.2.1 (gs).length p.2.2.2], .bool true]) (fun p => ⟨p.2.2.1, fl (gs), p.2.2.2 * 1, 23⟩ :: ⟨p.2.1.1, fl (ws), p.2.1.2 * 1, 23⟩ :: ⟨p.1.1.1, hd p.1.2 (mixS j.toNat v xss xss.length), p.1.1.2 * 1, 42⟩ :: rents 23 p.1.2 (mixS j.toNat v xss xss.length)) := by
  have h := c_implScale (w := w) (a := a) (a1 := a1) (a2 := a2) (c := c) (c1 := c1) (c2 := c2) (f := f) (xss := xss) (ws := ws) (gs := gs) (j := j) (v := v) hA hR hW hG hsz
  rw [scaleX_yes hok, scaleW_yes hok, scaleG_yes hok, hok] at h
  exact h
theorem c_squareE {w : World} {a a1 a2 : Option Addr} {c c1 c2 : Nat} {f : Nat → Option Addr × Nat} {xss : List (List Nat)} {ws gs : List Nat} {b : Option Addr} {d : Nat} {x : List Nat} (hA : Cl w a (hd f xss)) (hR : Rws w f xss) (hW : Cl w a1 (fl ws)) (hG : Cl w a2 (fl gs)) (hB : Cl w b (fl x)) (hsz : bulk xss + ws.length + gs.length ≤ 1050000) {s : Nat} (hok : fitsD xss ws gs x = true) (e : squareD xss ws gs x = s) : Pure Try.prog 30 [.agg #[.slice a xss.length c, .slice a1 ws.length c1, .slice a2 gs.length c2], .slice b x.length d] w (.tuple #[.float .f32 s, .bool true]) := by
  have h := c_implSquare (w := w) (a := a) (a1 := a1) (a2 := a2) (c := c) (c1 := c1) (c2 := c2) (f := f) (xss := xss) (ws := ws) (gs := gs) (b := b) (d := d) (x := x) hA hR hW hG hB hsz
  rw [e, hok] at h
  exact h
theorem c_squareM {w : World} {a a1 a2 : Option Addr} {c c1 c2 : Nat} {f : Nat → Option Addr × Nat} {xss : List (List Nat)} {ws gs : List Nat} {b : Option Addr} {d : Nat} {x : List Nat} {m : Nat} (hA : Cl w a (hd f xss)) (hR : Rws w f xss) (hW : Cl w a1 (fl ws)) (hG : Cl w a2 (fl gs)) (hB : Cl w b (fl x)) (hsz : bulk xss + ws.length + gs.length ≤ 1050000) {s : Nat} (hok : fitsD xss ws gs x = true) (e : squareD xss ws gs x = s) (hm : m = x.length) : Pure Try.prog 30 [.agg #[.slice a xss.length c, .slice a1 ws.length c1, .slice a2 gs.length c2], .slice b m d] w (.tuple #[.float .f32 s, .bool true]) := by
  subst hm
  exact c_squareE hA hR hW hG hB hsz hok e
theorem law_Rows {w : World} {a b : Option Addr} {c d : Nat} {bs cs : List Int} (hA : Cl w a (bl bs)) (hB : Cl w b (bl cs)) (hb : Bytes bs) (hcb : Bytes cs) : Pure Try.prog 7 [.slice a bs.length c, .slice b cs.length d] w (.bool true) := by
  refine Pure.enter Try.func7 rfl Try.ntmps7 (Nat.le_of_ble_eq_true rfl) ?_
  refine V.seq ?_
  refine V.region ?_
  refine VL.r (.inl rfl) rfl (by decide) (yr_assign (u := .bool false) rfl rfl) ?_
  refine VL.nil ?_
  refine VE.then_wp ?_
  refine V.seq ?_
  refine V.seq ?_
  refine V.region ?_
  refine VL.r (.inl rfl) rfl (by decide) (yr_move rfl rfl) ?_
  refine VL.r (.inl rfl) rfl (by decide) (yr_move rfl rfl) ?_
  refine VL.q (.inl rfl) rfl (by decide) (yq_callf rfl known33_Rt (.cons rfl (.cons rfl .nil)) (fun w hw => c_b10Long)) ?_
  refine VL.nil ?_
  refine VE.then_wp ?_
  refine V.cond rfl (fun h1 => ?_) (fun h1 => ?_)
  · skip
    refine V.seq ?_
    refine V.region ?_
    refine VL.r (.inl rfl) rfl (by decide) (yr_assign (u := .bool true) rfl rfl) ?_
    refine VL.nil ?_
    refine VE.then_wp ?_
    refine V.ret ?_
    refine VE.then_ret ?_
    refine ret1 rfl rfl (fun w1 hw => ?_)
    exact ⟨rfl, hw.below⟩
  · skip
    rw [Bool.or_eq_false_iff, decide_eq_false_iff_not, decide_eq_false_iff_not] at h1
    have hl1 := h1.1
    have hl2 := h1.2
    refine V.skip ?_
    refine VE.then_wp ?_
    refine V.seq ?_
    refine V.region ?_
    refine VL.r (.inl rfl) rfl (by decide) (yr_move rfl rfl) ?_
    refine VL.new (.inl rfl) rfl (by decide) (yn_callf rfl known34_Rt (.cons rfl .nil) (fun w hw => (c_b10Design (by first | exact Sees.root (by assumption) w hw | exact Sees.own (by repeat (first | exact List.mem_cons_self | exact List.mem_append_left _ (by assumption) | apply List.mem_cons_of_mem | apply List.mem_append_right)) w hw) hb (by omega)))) ?_
    rintro ⟨⟨⟨⟨⟨a28, c28⟩, f28⟩, ⟨p28, q28⟩, ⟨r28, s28⟩⟩, xss28, ws28, gs28, n28, at28, sd28⟩, hd28⟩
    dsimp only at hd28
    refine VL.new1 (.inl rfl) rfl (by decide) (yn_alloc rfl zero46_Rt rfl) ?_
    intro b5
    refine VL.s (.inl rfl) rfl (yc_store rfl sz46_Rt rfl rfl (by repeat (first | exact UpdF.here | apply UpdF.there | apply UpdF.thereS)) (.inr ⟨rfl, rfl⟩) rfl (by first | exact Nat.le_of_ble_eq_true rfl | simp) (by decide) rfl) ?_
    rintro ⟨⟩
    refine VL.nil ?_
    refine VE.then_wp ?_
    refine V.seq ?_
    refine V.region ?_
    refine VL.r (.inl rfl) rfl (by decide) (yr_fieldAddr rfl Try.underlying46 rfl rfl sz41_Rt (by decide) rfl) ?_
    refine VL.q (.inl rfl) rfl (by decide) (yq_load rfl fb41_Rt rfl (by first | exact Sees.root (by assumption) | exact Sees.own (by repeat (first | exact List.mem_cons_self | exact List.mem_append_left _ (by assumption) | apply List.mem_cons_of_mem | apply List.mem_append_right)) | exact Sees.root (hR _ (by omega)) | exact Sees.own (RowsIn.mem (by repeat (first | exact RowsIn.here | exact RowsIn.last | apply RowsIn.there | apply RowsIn.thereS)) _ (by omega)) | exact Sees.own (WRowsIn.mem (by repeat (first | exact WRowsIn.here | exact WRowsIn.last | apply WRowsIn.there | apply WRowsIn.thereS)) _ (by omega))) rfl) ?_
    refine VL.q (.inl rfl) rfl (by decide) (yq_idx (k := 0) rfl Try.underlying41 sz42_Rt rfl rfl (by first | exact Sees.root (by assumption) | exact Sees.own (by repeat (first | exact List.mem_cons_self | exact List.mem_append_left _ (by assumption) | apply List.mem_cons_of_mem | apply List.mem_append_right)) | exact Sees.root (hR _ (by omega)) | exact Sees.own (RowsIn.mem (by repeat (first | exact RowsIn.here | exact RowsIn.last | apply RowsIn.there | apply RowsIn.thereS)) _ (by omega)) | exact Sees.own (WRowsIn.mem (by repeat (first | exact WRowsIn.here | exact WRowsIn.last | apply WRowsIn.there | apply WRowsIn.thereS)) _ (by omega))) (by first | rfl | omega | (push_cast; rfl) | (push_cast; omega) | exact tmod_nat _ _) (by first | exact hd_length _ _ | exact fl_length _ | (rw [List.nil_append, fl_length, Nat.zero_add])) (by (try dsimp only); have h71 := valid_small (valid_is (dd_valid hd28)); have h72 := dd_len0 hd28; have h73 := hd28.n2; have h74 := hd28.n1; have h75 := hd28.m1; have h76 := hd28.m2; omega)) ?_
    refine VL.q (.inl rfl) rfl (by decide) (yq_loadH rfl fb42_Rt rfl (by first | exact Sees.root (by assumption) | exact Sees.own (by repeat (first | exact List.mem_cons_self | exact List.mem_append_left _ (by assumption) | apply List.mem_cons_of_mem | apply List.mem_append_right)) | exact Sees.root (hR _ (by omega)) | exact Sees.own (RowsIn.mem (by repeat (first | exact RowsIn.here | exact RowsIn.last | apply RowsIn.there | apply RowsIn.thereS)) _ (by omega)) | exact Sees.own (WRowsIn.mem (by repeat (first | exact WRowsIn.here | exact WRowsIn.last | apply WRowsIn.there | apply WRowsIn.thereS)) _ (by omega))) (by (try dsimp only); have h71 := valid_small (valid_is (dd_valid hd28)); have h72 := dd_len0 hd28; have h73 := hd28.n2; have h74 := hd28.n1; have h75 := hd28.m1; have h76 := hd28.m2; omega)) ?_
    refine VL.r (.inl rfl) rfl (by decide) (yr_len rfl Try.underlying42 rfl) ?_
    refine VL.r (.inl rfl) rfl (by decide) (yr_assign rfl rfl) ?_
    refine VL.nil ?_
    refine VE.then_wp ?_
    refine V.seq ?_
    refine V.region ?_
    refine VL.r (.inl rfl) rfl (by decide) (yr_move rfl rfl) ?_
    refine VL.r (.inl rfl) rfl (by decide) (yr_move rfl rfl) ?_
    refine VL.new (.inl rfl) rfl (by decide) (yn_callf rfl known35_Rt (.cons rfl (.cons rfl .nil)) (fun w hw => (c_b10X (m := (xss28.getD 0 []).length) (by first | exact Sees.root (by assumption) w hw | exact Sees.own (by repeat (first | exact List.mem_cons_self | exact List.mem_append_left _ (by assumption) | apply List.mem_cons_of_mem | apply List.mem_append_right)) w hw) hcb (by omega) (by (try dsimp only); have h71 := valid_small (valid_is (dd_valid hd28)); have h72 := dd_len0 hd28; have h73 := hd28.n2; have h74 := hd28.n1; have h75 := hd28.m1; have h76 := hd28.m2; omega)))) ?_
    rintro ⟨⟨⟨a36, c36⟩, xs36⟩, hl36, hq36⟩
    dsimp only at hl36 hq36
    obtain ⟨S, hrt⟩ := rt_facts hd28 hq36 (hl36.trans (dd_len0 hd28))
    refine VL.r (.inl rfl) rfl (by decide) (yr_assign rfl rfl) ?_
    refine VL.nil ?_
    refine VE.then_wp ?_
    refine V.seq ?_
    refine V.region ?_
    refine VL.q (.inl rfl) rfl (by decide) (yq_loadS rfl Try.underlying46 sz46_Rt rfl (by first | exact Sees.root (by assumption) | exact Sees.own (by repeat (first | exact List.mem_cons_self | exact List.mem_append_left _ (by assumption) | apply List.mem_cons_of_mem | apply List.mem_append_right)) | exact Sees.root (hR _ (by omega)) | exact Sees.own (RowsIn.mem (by repeat (first | exact RowsIn.here | exact RowsIn.last | apply RowsIn.there | apply RowsIn.thereS)) _ (by omega)) | exact Sees.own (WRowsIn.mem (by repeat (first | exact WRowsIn.here | exact WRowsIn.last | apply WRowsIn.there | apply WRowsIn.thereS)) _ (by omega))) rfl rfl rfl) ?_
    refine VL.r (.inl rfl) rfl (by decide) (yr_move rfl rfl) ?_
    refine VL.new (.inl rfl) rfl (by decide) (yn_callf rfl known36_Rt (.cons rfl (.cons rfl (.cons rfl (.cons rfl .nil)))) (fun w hw => (c_addE (wt := 1073741824) (gt := 1065353216) (by first | exact Sees.root (by assumption) w hw | exact Sees.own (by repeat (first | exact List.mem_cons_self | exact List.mem_append_left _ (by assumption) | apply List.mem_cons_of_mem | apply List.mem_append_right)) w hw) (by first | exact Rws.root (by assumption) hw | exact Rws.own (by repeat (first | exact RowsIn.here | exact RowsIn.last | apply RowsIn.there | apply RowsIn.thereS)) hw) (by first | exact Sees.root (by assumption) w hw | exact Sees.own (by repeat (first | exact List.mem_cons_self | exact List.mem_append_left _ (by assumption) | apply List.mem_cons_of_mem | apply List.mem_append_right)) w hw) (by first | exact Sees.root (by assumption) w hw | exact Sees.own (by repeat (first | exact List.mem_cons_self | exact List.mem_append_left _ (by assumption) | apply List.mem_cons_of_mem | apply List.mem_append_right)) w hw) (by first | exact Sees.root (by assumption) w hw | exact Sees.own (by repeat (first | exact List.mem_cons_self | exact List.mem_append_left _ (by assumption) | apply List.mem_cons_of_mem | apply List.mem_append_right)) w hw) (by (try dsimp only); have h71 := valid_small (valid_is (dd_valid hd28)); have h72 := dd_len0 hd28; have h73 := hd28.n2; have h74 := hd28.n1; have h75 := hd28.m1; have h76 := hd28.m2; omega) (by (try dsimp only); have h71 := valid_small (valid_is (dd_valid hd28)); have h72 := dd_len0 hd28; have h73 := hd28.n2; have h74 := hd28.n1; have h75 := hd28.m1; have h76 := hd28.m2; omega) hrt.hadd))) ?_
    rintro ⟨⟨⟨a40, c40⟩, f40⟩, ⟨p40, q40⟩, ⟨r40, s40⟩⟩
    refine VL.r (.inl rfl) rfl (by decide) (yr_move rfl rfl) ?_
    refine VL.r (.inl rfl) rfl (by decide) (yr_extract rfl rfl rfl (by nofun)) ?_
    refine VL.r (.inl rfl) rfl (by decide) (yr_extract rfl rfl rfl (by nofun)) ?_
    refine VL.new1 (.inl rfl) rfl (by decide) (yn_alloc rfl zero46_Rt rfl) ?_
    intro b8
    refine VL.s (.inl rfl) rfl (yc_store rfl sz46_Rt rfl rfl (by repeat (first | exact UpdF.here | apply UpdF.there | apply UpdF.thereS)) (.inr ⟨rfl, rfl⟩) rfl (by first | exact Nat.le_of_ble_eq_true rfl | simp) (by decide) rfl) ?_
    rintro ⟨⟩
    refine VL.r (.inl rfl) rfl (by decide) (yr_assign rfl rfl) ?_
    refine VL.nil ?_
    refine VE.then_wp ?_
    refine V.seq ?_
    refine V.region ?_
    refine VL.q (.inl rfl) rfl (by decide) (yq_loadS rfl Try.underlying46 sz46_Rt rfl (by first | exact Sees.root (by assumption) | exact Sees.own (by repeat (first | exact List.mem_cons_self | exact List.mem_append_left _ (by assumption) | apply List.mem_cons_of_mem | apply List.mem_append_right)) | exact Sees.root (hR _ (by omega)) | exact Sees.own (RowsIn.mem (by repeat (first | exact RowsIn.here | exact RowsIn.last | apply RowsIn.there | apply RowsIn.thereS)) _ (by omega)) | exact Sees.own (WRowsIn.mem (by repeat (first | exact WRowsIn.here | exact WRowsIn.last | apply WRowsIn.there | apply WRowsIn.thereS)) _ (by omega))) rfl rfl rfl) ?_
    refine VL.r (.inl rfl) rfl (by decide) (yr_fieldAddr rfl Try.underlying46 rfl rfl sz41_Rt (by decide) rfl) ?_
    refine VL.q (.inl rfl) rfl (by decide) (yq_load rfl fb41_Rt rfl (by first | exact Sees.root (by assumption) | exact Sees.own (by repeat (first | exact List.mem_cons_self | exact List.mem_append_left _ (by assumption) | apply List.mem_cons_of_mem | apply List.mem_append_right)) | exact Sees.root (hR _ (by omega)) | exact Sees.own (RowsIn.mem (by repeat (first | exact RowsIn.here | exact RowsIn.last | apply RowsIn.there | apply RowsIn.thereS)) _ (by omega)) | exact Sees.own (WRowsIn.mem (by repeat (first | exact WRowsIn.here | exact WRowsIn.last | apply WRowsIn.there | apply WRowsIn.thereS)) _ (by omega))) rfl) ?_
    refine VL.r (.inl rfl) rfl (by decide) (yr_len rfl Try.underlying41 rfl) ?_
    refine VL.new (.inl rfl) rfl (by decide) (yn_callf rfl known37_Rt (.cons rfl (.cons rfl .nil)) (fun w hw => (c_dropE (j := (xss28.length : Int)) (by first | exact Sees.root (by assumption) w hw | exact Sees.own (by repeat (first | exact List.mem_cons_self | exact List.mem_append_left _ (by assumption) | apply List.mem_cons_of_mem | apply List.mem_append_right)) w hw) (by first | exact Rws.root (by assumption) hw | exact Rws.own (by repeat (first | exact RowsIn.here | exact RowsIn.last | apply RowsIn.there | apply RowsIn.thereS)) hw) (by first | exact Sees.root (by assumption) w hw | exact Sees.own (by repeat (first | exact List.mem_cons_self | exact List.mem_append_left _ (by assumption) | apply List.mem_cons_of_mem | apply List.mem_append_right)) w hw) (by first | exact Sees.root (by assumption) w hw | exact Sees.own (by repeat (first | exact List.mem_cons_self | exact List.mem_append_left _ (by assumption) | apply List.mem_cons_of_mem | apply List.mem_append_right)) w hw) (by have h77 := hrt.hadd; unfold mergeOk at h77; rw [Bool.and_eq_true] at h77; have h78 := valid_small (valid_is h77.2); (try dsimp only); omega) hrt.hdrop hrt.hdX hrt.hdW hrt.hdG))) ?_
    rintro ⟨⟨⟨a48, c48⟩, f48⟩, ⟨p48, q48⟩, ⟨r48, s48⟩⟩
    refine VL.r (.inl rfl) rfl (by decide) (yr_move rfl rfl) ?_
    refine VL.r (.inl rfl) rfl (by decide) (yr_extract rfl rfl rfl (by nofun)) ?_
    refine VL.r (.inl rfl) rfl (by decide) (yr_extract rfl rfl rfl (by nofun)) ?_
    refine VL.new1 (.inl rfl) rfl (by decide) (yn_alloc rfl zero46_Rt rfl) ?_
    intro b10
    refine VL.s (.inl rfl) rfl (yc_store rfl sz46_Rt rfl rfl (by repeat (first | exact UpdF.here | apply UpdF.there | apply UpdF.thereS)) (.inr ⟨rfl, rfl⟩) rfl (by first | exact Nat.le_of_ble_eq_true rfl | simp) (by decide) rfl) ?_
    rintro ⟨⟩
    refine VL.r (.inl rfl) rfl (by decide) (yr_assign rfl rfl) ?_
    refine VL.nil ?_
    refine VE.then_wp ?_
    refine V.seq ?_
    refine V.region ?_
    refine VL.q (.inl rfl) rfl (by decide) (yq_loadS rfl Try.underlying46 sz46_Rt rfl (by first | exact Sees.root (by assumption) | exact Sees.own (by repeat (first | exact List.mem_cons_self | exact List.mem_append_left _ (by assumption) | apply List.mem_cons_of_mem | apply List.mem_append_right)) | exact Sees.root (hR _ (by omega)) | exact Sees.own (RowsIn.mem (by repeat (first | exact RowsIn.here | exact RowsIn.last | apply RowsIn.there | apply RowsIn.thereS)) _ (by omega)) | exact Sees.own (WRowsIn.mem (by repeat (first | exact WRowsIn.here | exact WRowsIn.last | apply WRowsIn.there | apply WRowsIn.thereS)) _ (by omega))) rfl rfl rfl) ?_
    refine VL.q (.inl rfl) rfl (by decide) (yq_loadS rfl Try.underlying46 sz46_Rt rfl (by first | exact Sees.root (by assumption) | exact Sees.own (by repeat (first | exact List.mem_cons_self | exact List.mem_append_left _ (by assumption) | apply List.mem_cons_of_mem | apply List.mem_append_right)) | exact Sees.root (hR _ (by omega)) | exact Sees.own (RowsIn.mem (by repeat (first | exact RowsIn.here | exact RowsIn.last | apply RowsIn.there | apply RowsIn.thereS)) _ (by omega)) | exact Sees.own (WRowsIn.mem (by repeat (first | exact WRowsIn.here | exact WRowsIn.last | apply WRowsIn.there | apply WRowsIn.thereS)) _ (by omega))) rfl rfl rfl) ?_
    refine VL.new (.inl rfl) rfl (by decide) (yn_callf rfl known22_Rt (.cons rfl (.cons rfl .nil)) (fun w hw => (c_mergeE (by first | exact Sees.root (by assumption) w hw | exact Sees.own (by repeat (first | exact List.mem_cons_self | exact List.mem_append_left _ (by assumption) | apply List.mem_cons_of_mem | apply List.mem_append_right)) w hw) (by first | exact Rws.root (by assumption) hw | exact Rws.own (by repeat (first | exact RowsIn.here | exact RowsIn.last | apply RowsIn.there | apply RowsIn.thereS)) hw) (by first | exact Sees.root (by assumption) w hw | exact Sees.own (by repeat (first | exact List.mem_cons_self | exact List.mem_append_left _ (by assumption) | apply List.mem_cons_of_mem | apply List.mem_append_right)) w hw) (by first | exact Sees.root (by assumption) w hw | exact Sees.own (by repeat (first | exact List.mem_cons_self | exact List.mem_append_left _ (by assumption) | apply List.mem_cons_of_mem | apply List.mem_append_right)) w hw) (by first | exact Sees.root (by assumption) w hw | exact Sees.own (by repeat (first | exact List.mem_cons_self | exact List.mem_append_left _ (by assumption) | apply List.mem_cons_of_mem | apply List.mem_append_right)) w hw) (by first | exact Rws.root (by assumption) hw | exact Rws.own (by repeat (first | exact RowsIn.here | exact RowsIn.last | apply RowsIn.there | apply RowsIn.thereS)) hw) (by first | exact Sees.root (by assumption) w hw | exact Sees.own (by repeat (first | exact List.mem_cons_self | exact List.mem_append_left _ (by assumption) | apply List.mem_cons_of_mem | apply List.mem_append_right)) w hw) (by first | exact Sees.root (by assumption) w hw | exact Sees.own (by repeat (first | exact List.mem_cons_self | exact List.mem_append_left _ (by assumption) | apply List.mem_cons_of_mem | apply List.mem_append_right)) w hw) (by (try dsimp only); have h71 := valid_small (valid_is (dd_valid hd28)); have h72 := dd_len0 hd28; have h73 := hd28.n2; have h74 := hd28.n1; have h75 := hd28.m1; have h76 := hd28.m2; omega) (by (try dsimp only); have h71 := valid_small (valid_is (dd_valid hd28)); have h72 := dd_len0 hd28; have h73 := hd28.n2; have h74 := hd28.n1; have h75 := hd28.m1; have h76 := hd28.m2; omega) hrt.htwo))) ?_
    rintro ⟨⟨⟨a54, c54⟩, f54⟩, ⟨p54, q54⟩, ⟨r54, s54⟩⟩
    refine VL.r (.inl rfl) rfl (by decide) (yr_move rfl rfl) ?_
    refine VL.r (.inl rfl) rfl (by decide) (yr_extract rfl rfl rfl (by nofun)) ?_
    refine VL.r (.inl rfl) rfl (by decide) (yr_extract rfl rfl rfl (by nofun)) ?_
    refine VL.new1 (.inl rfl) rfl (by decide) (yn_alloc rfl zero46_Rt rfl) ?_
    intro b12
    refine VL.s (.inl rfl) rfl (yc_store rfl sz46_Rt rfl rfl (by repeat (first | exact UpdF.here | apply UpdF.there | apply UpdF.thereS)) (.inr ⟨rfl, rfl⟩) rfl (by first | exact Nat.le_of_ble_eq_true rfl | simp) (by decide) rfl) ?_
    rintro ⟨⟩
    refine VL.r (.inl rfl) rfl (by decide) (yr_assign rfl rfl) ?_
    refine VL.nil ?_
    refine VE.then_wp ?_
    refine V.seq ?_
    refine V.region ?_
    refine VL.q (.inl rfl) rfl (by decide) (yq_loadS rfl Try.underlying46 sz46_Rt rfl (by first | exact Sees.root (by assumption) | exact Sees.own (by repeat (first | exact List.mem_cons_self | exact List.mem_append_left _ (by assumption) | apply List.mem_cons_of_mem | apply List.mem_append_right)) | exact Sees.root (hR _ (by omega)) | exact Sees.own (RowsIn.mem (by repeat (first | exact RowsIn.here | exact RowsIn.last | apply RowsIn.there | apply RowsIn.thereS)) _ (by omega)) | exact Sees.own (WRowsIn.mem (by repeat (first | exact WRowsIn.here | exact WRowsIn.last | apply WRowsIn.there | apply WRowsIn.thereS)) _ (by omega))) rfl rfl rfl) ?_
    refine VL.r (.inl rfl) rfl (by decide) (yr_move rfl rfl) ?_
    refine VL.q (.inl rfl) rfl (by decide) (yq_callf rfl known30_Rt (.cons rfl (.cons rfl .nil)) (fun w hw => (c_squareE (by first | exact Sees.root (by assumption) w hw | exact Sees.own (by repeat (first | exact List.mem_cons_self | exact List.mem_append_left _ (by assumption) | apply List.mem_cons_of_mem | apply List.mem_append_right)) w hw) (by first | exact Rws.root (by assumption) hw | exact Rws.own (by repeat (first | exact RowsIn.here | exact RowsIn.last | apply RowsIn.there | apply RowsIn.thereS)) hw) (by first | exact Sees.root (by assumption) w hw | exact Sees.own (by repeat (first | exact List.mem_cons_self | exact List.mem_append_left _ (by assumption) | apply List.mem_cons_of_mem | apply List.mem_append_right)) w hw) (by first | exact Sees.root (by assumption) w hw | exact Sees.own (by repeat (first | exact List.mem_cons_self | exact List.mem_append_left _ (by assumption) | apply List.mem_cons_of_mem | apply List.mem_append_right)) w hw) (by first | exact Sees.root (by assumption) w hw | exact Sees.own (by repeat (first | exact List.mem_cons_self | exact List.mem_append_left _ (by assumption) | apply List.mem_cons_of_mem | apply List.mem_append_right)) w hw) (by (try dsimp only); have h71 := valid_small (valid_is (dd_valid hd28)); have h72 := dd_len0 hd28; have h73 := hd28.n2; have h74 := hd28.n1; have h75 := hd28.m1; have h76 := hd28.m2; omega) hrt.fit1 rfl))) ?_
    refine VL.r (.inl rfl) rfl (by decide) (yr_move rfl rfl) ?_
    refine VL.r (.inl rfl) rfl (by decide) (yr_extract rfl rfl rfl (by nofun)) ?_
    refine VL.r (.inl rfl) rfl (by decide) (yr_extract rfl rfl rfl (by nofun)) ?_
    refine VL.r (.inl rfl) rfl (by decide) (yr_assign rfl rfl) ?_
    refine VL.r (.inl rfl) rfl (by decide) (yr_assign rfl rfl) ?_
    refine VL.nil ?_
    refine VE.then_wp ?_
    refine V.seq ?_
    refine V.region ?_
    refine VL.q (.inl rfl) rfl (by decide) (yq_loadS rfl Try.underlying46 sz46_Rt rfl (by first | exact Sees.root (by assumption) | exact Sees.own (by repeat (first | exact List.mem_cons_self | exact List.mem_append_left _ (by assumption) | apply List.mem_cons_of_mem | apply List.mem_append_right)) | exact Sees.root (hR _ (by omega)) | exact Sees.own (RowsIn.mem (by repeat (first | exact RowsIn.here | exact RowsIn.last | apply RowsIn.there | apply RowsIn.thereS)) _ (by omega)) | exact Sees.own (WRowsIn.mem (by repeat (first | exact WRowsIn.here | exact WRowsIn.last | apply WRowsIn.there | apply WRowsIn.thereS)) _ (by omega))) rfl rfl rfl) ?_
    refine VL.r (.inl rfl) rfl (by decide) (yr_move rfl rfl) ?_
    refine VL.q (.inl rfl) rfl (by decide) (yq_callf rfl known30_Rt (.cons rfl (.cons rfl .nil)) (fun w hw => (c_squareE (by first | exact Sees.root (by assumption) w hw | exact Sees.own (by repeat (first | exact List.mem_cons_self | exact List.mem_append_left _ (by assumption) | apply List.mem_cons_of_mem | apply List.mem_append_right)) w hw) (by first | exact Rws.root (by assumption) hw | exact Rws.own (by repeat (first | exact RowsIn.here | exact RowsIn.last | apply RowsIn.there | apply RowsIn.thereS)) hw) (by first | exact Sees.root (by assumption) w hw | exact Sees.own (by repeat (first | exact List.mem_cons_self | exact List.mem_append_left _ (by assumption) | apply List.mem_cons_of_mem | apply List.mem_append_right)) w hw) (by first | exact Sees.root (by assumption) w hw | exact Sees.own (by repeat (first | exact List.mem_cons_self | exact List.mem_append_left _ (by assumption) | apply List.mem_cons_of_mem | apply List.mem_append_right)) w hw) (by first | exact Sees.root (by assumption) w hw | exact Sees.own (by repeat (first | exact List.mem_cons_self | exact List.mem_append_left _ (by assumption) | apply List.mem_cons_of_mem | apply List.mem_append_right)) w hw) (by have h77 := hrt.htwo; unfold mergeOk at h77; rw [Bool.and_eq_true] at h77; have h78 := valid_small (valid_is h77.2); (try dsimp only); omega) hrt.fit2 rfl))) ?_
    refine VL.r (.inl rfl) rfl (by decide) (yr_move rfl rfl) ?_
    refine VL.r (.inl rfl) rfl (by decide) (yr_extract rfl rfl rfl (by nofun)) ?_
    refine VL.r (.inl rfl) rfl (by decide) (yr_extract rfl rfl rfl (by nofun)) ?_
    refine VL.r (.inl rfl) rfl (by decide) (yr_assign rfl rfl) ?_
    refine VL.r (.inl rfl) rfl (by decide) (yr_assign rfl rfl) ?_
    refine VL.nil ?_
    refine VE.then_wp ?_
    refine V.seq ?_
    refine V.seq ?_
    refine V.region ?_
    refine VL.r (.inl rfl) rfl (by decide) (yr_move rfl rfl) ?_
    refine VL.r (.inl rfl) rfl (by decide) (yr_not rfl rfl) ?_
    refine VL.r (.inl rfl) rfl (by decide) (yr_move rfl rfl) ?_
    refine VX.split 71 _ rfl (fun h2 => ?_) (fun h2 => ?_)
    · skip
      replace h2 := bnot_t h2
      first | cases h2 | (simp at h2; done) | (exfalso; rw [List.length_append] at h2; dsimp only at h2; omega)
    · skip
      replace h2 := bnot_f h2
      refine VL.r (.inr ⟨_, _, _, rfl, rfl, rfl⟩) rfl (by decide) (yr_move rfl rfl) ?_
      refine VL.r (.inr ⟨_, _, _, rfl, rfl, rfl⟩) rfl (by decide) (yr_not rfl rfl) ?_
      refine VL.r (.inl rfl) rfl (by decide) (yr_pick_f rfl rfl rfl) ?_
      refine VL.r (.inl rfl) rfl (by decide) (yr_move rfl rfl) ?_
      refine VX.split 75 _ rfl (fun h3 => ?_) (fun h3 => ?_)
      · skip
        replace h3 := bnot_t h3
        first | cases h3 | (simp at h3; done) | (exfalso; rw [List.length_append] at h3; dsimp only at h3; omega)
      · skip
        replace h3 := bnot_f h3
        refine VL.r (.inr ⟨_, _, _, rfl, rfl, rfl⟩) rfl (by decide) (yr_move rfl rfl) ?_
        refine VL.r (.inr ⟨_, _, _, rfl, rfl, rfl⟩) rfl (by decide) (yr_not rfl rfl) ?_
        refine VL.r (.inl rfl) rfl (by decide) (yr_pick_f rfl rfl rfl) ?_
        refine VL.r (.inl rfl) rfl (by decide) (yr_move rfl rfl) ?_
        refine VX.split 79 _ rfl (fun h4 => ?_) (fun h4 => ?_)
        · skip
          replace h4 := bnot_t h4
          first | cases h4 | (simp at h4; done) | (exfalso; rw [List.length_append] at h4; dsimp only at h4; omega)
        · skip
          replace h4 := bnot_f h4
          refine VL.r (.inr ⟨_, _, _, rfl, rfl, rfl⟩) rfl (by decide) (yr_move rfl rfl) ?_
          refine VL.r (.inr ⟨_, _, _, rfl, rfl, rfl⟩) rfl (by decide) (yr_not rfl rfl) ?_
          refine VL.r (.inl rfl) rfl (by decide) (yr_pick_f rfl rfl rfl) ?_
          refine VL.r (.inl rfl) rfl (by decide) (yr_move rfl rfl) ?_
          refine VX.split 83 _ rfl (fun h5 => ?_) (fun h5 => ?_)
          · skip
            replace h5 := bnot_t h5
            first | cases h5 | (simp at h5; done) | (exfalso; rw [List.length_append] at h5; dsimp only at h5; omega)
          · skip
            replace h5 := bnot_f h5
            refine VL.r (.inr ⟨_, _, _, rfl, rfl, rfl⟩) rfl (by decide) (yr_move rfl rfl) ?_
            refine VL.r (.inr ⟨_, _, _, rfl, rfl, rfl⟩) rfl (by decide) (yr_not rfl rfl) ?_
            refine VL.r (.inl rfl) rfl (by decide) (yr_pick_f rfl rfl rfl) ?_
            refine VL.r (.inl rfl) rfl (by decide) (yr_move rfl rfl) ?_
            refine VX.split 87 _ rfl (fun h6 => ?_) (fun h6 => ?_)
            · skip
              replace h6 := bnot_t h6
              first | cases h6 | (simp at h6; done) | (exfalso; rw [List.length_append] at h6; dsimp only at h6; omega)
            · skip
              replace h6 := bnot_f h6
              refine VL.q (.inr ⟨_, _, _, rfl, rfl, rfl⟩) rfl (by decide) (yq_loadS rfl Try.underlying46 sz46_Rt rfl (by first | exact Sees.root (by assumption) | exact Sees.own (by repeat (first | exact List.mem_cons_self | exact List.mem_append_left _ (by assumption) | apply List.mem_cons_of_mem | apply List.mem_append_right)) | exact Sees.root (hR _ (by omega)) | exact Sees.own (RowsIn.mem (by repeat (first | exact RowsIn.here | exact RowsIn.last | apply RowsIn.there | apply RowsIn.thereS)) _ (by omega)) | exact Sees.own (WRowsIn.mem (by repeat (first | exact WRowsIn.here | exact WRowsIn.last | apply WRowsIn.there | apply WRowsIn.thereS)) _ (by omega))) rfl rfl rfl) ?_
              refine VL.q (.inr ⟨_, _, _, rfl, rfl, rfl⟩) rfl (by decide) (yq_loadS rfl Try.underlying46 sz46_Rt rfl (by first | exact Sees.root (by assumption) | exact Sees.own (by repeat (first | exact List.mem_cons_self | exact List.mem_append_left _ (by assumption) | apply List.mem_cons_of_mem | apply List.mem_append_right)) | exact Sees.root (hR _ (by omega)) | exact Sees.own (RowsIn.mem (by repeat (first | exact RowsIn.here | exact RowsIn.last | apply RowsIn.there | apply RowsIn.thereS)) _ (by omega)) | exact Sees.own (WRowsIn.mem (by repeat (first | exact WRowsIn.here | exact WRowsIn.last | apply WRowsIn.there | apply WRowsIn.thereS)) _ (by omega))) rfl rfl rfl) ?_
              refine VL.q (.inr ⟨_, _, _, rfl, rfl, rfl⟩) rfl (by decide) (yq_callf rfl known38_Rt (.cons rfl (.cons rfl .nil)) (fun w hw => (c_implSame (by first | exact Sees.root (by assumption) w hw | exact Sees.own (by repeat (first | exact List.mem_cons_self | exact List.mem_append_left _ (by assumption) | apply List.mem_cons_of_mem | apply List.mem_append_right)) w hw) (by first | exact Rws.root (by assumption) hw | exact Rws.own (by repeat (first | exact RowsIn.here | exact RowsIn.last | apply RowsIn.there | apply RowsIn.thereS)) hw) (by first | exact Sees.root (by assumption) w hw | exact Sees.own (by repeat (first | exact List.mem_cons_self | exact List.mem_append_left _ (by assumption) | apply List.mem_cons_of_mem | apply List.mem_append_right)) w hw) (by first | exact Sees.root (by assumption) w hw | exact Sees.own (by repeat (first | exact List.mem_cons_self | exact List.mem_append_left _ (by assumption) | apply List.mem_cons_of_mem | apply List.mem_append_right)) w hw) (by first | exact Sees.root (by assumption) w hw | exact Sees.own (by repeat (first | exact List.mem_cons_self | exact List.mem_append_left _ (by assumption) | apply List.mem_cons_of_mem | apply List.mem_append_right)) w hw) (by first | exact Rws.root (by assumption) hw | exact Rws.own (by repeat (first | exact RowsIn.here | exact RowsIn.last | apply RowsIn.there | apply RowsIn.thereS)) hw) (by first | exact Sees.root (by assumption) w hw | exact Sees.own (by repeat (first | exact List.mem_cons_self | exact List.mem_append_left _ (by assumption) | apply List.mem_cons_of_mem | apply List.mem_append_right)) w hw) (by first | exact Sees.root (by assumption) w hw | exact Sees.own (by repeat (first | exact List.mem_cons_self | exact List.mem_append_left _ (by assumption) | apply List.mem_cons_of_mem | apply List.mem_append_right)) w hw) hrt.hX hrt.hXw hrt.hXg hrt.hX hrt.hXw hrt.hXg (by (try dsimp only); have h71 := valid_small (valid_is (dd_valid hd28)); have h72 := dd_len0 hd28; have h73 := hd28.n2; have h74 := hd28.n1; have h75 := hd28.m1; have h76 := hd28.m2; omega)))) ?_
              refine VL.r (.inr ⟨_, _, _, rfl, rfl, rfl⟩) rfl (by decide) (yr_not rfl rfl) ?_
              refine VL.r (.inl rfl) rfl (by decide) (yr_pick_f rfl rfl rfl) ?_
              refine VL.r (.inl rfl) rfl (by decide) (yr_move rfl rfl) ?_
              refine VX.split 93 _ rfl (fun h7 => ?_) (fun h7 => ?_)
              · skip
                replace h7 := bnot_t h7
                first | cases h7 | (simp at h7; done) | (exfalso; rw [List.length_append] at h7; dsimp only at h7; omega)
              · skip
                replace h7 := bnot_f h7
                refine VL.r (.inr ⟨_, _, _, rfl, rfl, rfl⟩) rfl (by decide) (yr_fieldAddr rfl Try.underlying46 rfl rfl sz41_Rt (by decide) rfl) ?_
                refine VL.q (.inr ⟨_, _, _, rfl, rfl, rfl⟩) rfl (by decide) (yq_load rfl fb41_Rt rfl (by first | exact Sees.root (by assumption) | exact Sees.own (by repeat (first | exact List.mem_cons_self | exact List.mem_append_left _ (by assumption) | apply List.mem_cons_of_mem | apply List.mem_append_right)) | exact Sees.root (hR _ (by omega)) | exact Sees.own (RowsIn.mem (by repeat (first | exact RowsIn.here | exact RowsIn.last | apply RowsIn.there | apply RowsIn.thereS)) _ (by omega)) | exact Sees.own (WRowsIn.mem (by repeat (first | exact WRowsIn.here | exact WRowsIn.last | apply WRowsIn.there | apply WRowsIn.thereS)) _ (by omega))) rfl) ?_
                refine VL.r (.inr ⟨_, _, _, rfl, rfl, rfl⟩) rfl (by decide) (yr_len rfl Try.underlying41 rfl) ?_
                refine VL.r (.inr ⟨_, _, _, rfl, rfl, rfl⟩) rfl (by decide) (yr_fieldAddr rfl Try.underlying46 rfl rfl sz41_Rt (by decide) rfl) ?_
                refine VL.q (.inr ⟨_, _, _, rfl, rfl, rfl⟩) rfl (by decide) (yq_load rfl fb41_Rt rfl (by first | exact Sees.root (by assumption) | exact Sees.own (by repeat (first | exact List.mem_cons_self | exact List.mem_append_left _ (by assumption) | apply List.mem_cons_of_mem | apply List.mem_append_right)) | exact Sees.root (hR _ (by omega)) | exact Sees.own (RowsIn.mem (by repeat (first | exact RowsIn.here | exact RowsIn.last | apply RowsIn.there | apply RowsIn.thereS)) _ (by omega)) | exact Sees.own (WRowsIn.mem (by repeat (first | exact WRowsIn.here | exact WRowsIn.last | apply WRowsIn.there | apply WRowsIn.thereS)) _ (by omega))) rfl) ?_
                refine VL.r (.inr ⟨_, _, _, rfl, rfl, rfl⟩) rfl (by decide) (yr_len rfl Try.underlying41 rfl) ?_
                refine VL.r (.inr ⟨_, _, _, rfl, rfl, rfl⟩) rfl (by decide) (yr_mulN 2 xss28.length rfl rfl rfl rfl rfl (by (try dsimp only); have h71 := valid_small (valid_is (dd_valid hd28)); have h72 := dd_len0 hd28; have h73 := hd28.n2; have h74 := hd28.n1; have h75 := hd28.m1; have h76 := hd28.m2; omega)) ?_
                refine VL.r (.inr ⟨_, _, _, rfl, rfl, rfl⟩) rfl (by decide) (yr_icmp rfl (.inr (.inl rfl)) rfl rfl) ?_
                refine VL.r (.inl rfl) rfl (by decide) (yr_pick_f rfl rfl rfl) ?_
                refine VL.r (.inl rfl) rfl (by decide) (yr_move rfl rfl) ?_
                refine VX.split 103 _ rfl (fun h8 => ?_) (fun h8 => ?_)
                · skip
                  replace h8 := ic_neq h8
                  first | cases h8 | (simp at h8; done) | (exfalso; rw [List.length_append] at h8; dsimp only at h8; omega)
                · skip
                  replace h8 := ic_neq' h8
                  refine VL.r (.inr ⟨_, _, _, rfl, rfl, rfl⟩) rfl (by decide) (yr_move rfl rfl) ?_
                  refine VL.r (.inr ⟨_, _, _, rfl, rfl, rfl⟩) rfl (by decide) (yr_fconv rfl Try.underlying23 Try.underlying59 (by decide) rfl (fover_up _)) ?_
                  refine VL.r (.inr ⟨_, _, _, rfl, rfl, rfl⟩) rfl (by decide) (yr_float (a := 4611686018427387904) rfl (.inr (.inr (.inl rfl))) rfl rfl) ?_
                  refine VL.r (.inr ⟨_, _, _, rfl, rfl, rfl⟩) rfl (by decide) (yr_move rfl rfl) ?_
                  refine VL.r (.inr ⟨_, _, _, rfl, rfl, rfl⟩) rfl (by decide) (yr_fconv rfl Try.underlying23 Try.underlying59 (by decide) rfl (fover_up _)) ?_
                  refine VL.q (.inr ⟨_, _, _, rfl, rfl, rfl⟩) rfl (by decide) (yq_callf rfl known39_Rt (.cons rfl (.cons rfl .nil)) (fun w hw => (c_b10GapE (rt_gap1 hrt.hS hrt.dy1 hrt.dy2).1 (rt_gap1 hrt.hS hrt.dy1 hrt.dy2).2))) ?_
                  refine VL.r (.inr ⟨_, _, _, rfl, rfl, rfl⟩) rfl (by decide) (yr_move rfl rfl) ?_
                  refine VL.r (.inr ⟨_, _, _, rfl, rfl, rfl⟩) rfl (by decide) (yr_fconv rfl Try.underlying23 Try.underlying59 (by decide) rfl (fover_up _)) ?_
                  refine VL.r (.inr ⟨_, _, _, rfl, rfl, rfl⟩) rfl (by decide) (yr_float (a := 4607182418800017408) rfl (.inl rfl) rfl rfl) ?_
                  refine VL.r (.inr ⟨_, _, _, rfl, rfl, rfl⟩) rfl (by decide) (yr_float (a := 4576918229304087675) rfl (.inr (.inr (.inl rfl))) rfl rfl) ?_
                  refine VL.r (.inr ⟨_, _, _, rfl, rfl, rfl⟩) rfl (by decide) (yr_fcmp rfl (.inr (.inr (.inr (.inr (.inl rfl))))) rfl rfl) ?_
                  refine VL.r (.inl rfl) rfl (by decide) (yr_pick_f rfl rfl rfl) ?_
                  refine VL.nil ?_
                  refine VE.then_wp ?_
                  refine V.cond rfl (fun h9 => ?_) (fun h9 => ?_)
                  · skip
                    rw [not_gtr (rt_lt hrt.hS hrt.dy1 (gap0 (rt_gap1 hrt.hS hrt.dy1 hrt.dy2).1 (rt_gap1 hrt.hS hrt.dy1 hrt.dy2).2) c01 (by decide) (by decide))] at h9; cases h9
                  · skip
                    refine V.skip ?_
                    refine VE.then_wp ?_
                    refine V.seq ?_
                    refine V.region ?_
                    refine VL.r (.inl rfl) rfl (by decide) (yr_move rfl rfl) ?_
                    refine VL.r (.inl rfl) rfl (by decide) (yr_move rfl rfl) ?_
                    refine VL.new (.inl rfl) rfl (by decide) (yn_callf rfl known40_Rt (.cons rfl (.cons rfl (.cons rfl .nil))) (fun w hw => (c_b10At (k := 0) (m := (xss28.getD 0 []).length) (by first | exact Sees.root (by assumption) w hw | exact Sees.own (by repeat (first | exact List.mem_cons_self | exact List.mem_append_left _ (by assumption) | apply List.mem_cons_of_mem | apply List.mem_append_right)) w hw) hcb (by omega) (by (try dsimp only); have h71 := valid_small (valid_is (dd_valid hd28)); have h72 := dd_len0 hd28; have h73 := hd28.n2; have h74 := hd28.n1; have h75 := hd28.m1; have h76 := hd28.m2; omega) (by omega)))) ?_
                    rintro ⟨x118, hx118⟩
                    obtain ⟨z1, z2, z3⟩ := dd_scale (j := x118) hd28 hq36 (hl36.trans (dd_len0 hd28)) (by rw [← dd_len0 hd28]; exact hx118)
                    refine VL.r (.inl rfl) rfl (by decide) (yr_assign rfl rfl) ?_
                    refine VL.nil ?_
                    refine VE.then_wp ?_
                    refine V.seq ?_
                    refine V.region ?_
                    refine VL.q (.inl rfl) rfl (by decide) (yq_loadS rfl Try.underlying46 sz46_Rt rfl (by first | exact Sees.root (by assumption) | exact Sees.own (by repeat (first | exact List.mem_cons_self | exact List.mem_append_left _ (by assumption) | apply List.mem_cons_of_mem | apply List.mem_append_right)) | exact Sees.root (hR _ (by omega)) | exact Sees.own (RowsIn.mem (by repeat (first | exact RowsIn.here | exact RowsIn.last | apply RowsIn.there | apply RowsIn.thereS)) _ (by omega)) | exact Sees.own (WRowsIn.mem (by repeat (first | exact WRowsIn.here | exact WRowsIn.last | apply WRowsIn.there | apply WRowsIn.thereS)) _ (by omega))) rfl rfl rfl) ?_
                    refine VL.r (.inl rfl) rfl (by decide) (yr_move rfl rfl) ?_
                    refine VL.new (.inl rfl) rfl (by decide) (yn_callf rfl known27_Rt (.cons rfl (.cons rfl (.cons rfl .nil))) (fun w hw => (c_scaleE (j := ((x118 : Nat) : Int)) (v := 1073741824) (by first | exact Sees.root (by assumption) w hw | exact Sees.own (by repeat (first | exact List.mem_cons_self | exact List.mem_append_left _ (by assumption) | apply List.mem_cons_of_mem | apply List.mem_append_right)) w hw) (by first | exact Rws.root (by assumption) hw | exact Rws.own (by repeat (first | exact RowsIn.here | exact RowsIn.last | apply RowsIn.there | apply RowsIn.thereS)) hw) (by first | exact Sees.root (by assumption) w hw | exact Sees.own (by repeat (first | exact List.mem_cons_self | exact List.mem_append_left _ (by assumption) | apply List.mem_cons_of_mem | apply List.mem_append_right)) w hw) (by first | exact Sees.root (by assumption) w hw | exact Sees.own (by repeat (first | exact List.mem_cons_self | exact List.mem_append_left _ (by assumption) | apply List.mem_cons_of_mem | apply List.mem_append_right)) w hw) (by (try dsimp only); have h71 := valid_small (valid_is (dd_valid hd28)); have h72 := dd_len0 hd28; have h73 := hd28.n2; have h74 := hd28.n1; have h75 := hd28.m1; have h76 := hd28.m2; omega) z1))) ?_
                    rintro ⟨⟨⟨a122, c122⟩, f122⟩, ⟨p122, q122⟩, ⟨r122, s122⟩⟩
                    refine VL.r (.inl rfl) rfl (by decide) (yr_move rfl rfl) ?_
                    refine VL.r (.inl rfl) rfl (by decide) (yr_extract rfl rfl rfl (by nofun)) ?_
                    refine VL.r (.inl rfl) rfl (by decide) (yr_extract rfl rfl rfl (by nofun)) ?_
                    refine VL.new1 (.inl rfl) rfl (by decide) (yn_alloc rfl zero46_Rt rfl) ?_
                    intro b19
                    refine VL.s (.inl rfl) rfl (yc_store rfl sz46_Rt rfl rfl (by repeat (first | exact UpdF.here | apply UpdF.there | apply UpdF.thereS)) (.inr ⟨rfl, rfl⟩) rfl (by first | exact Nat.le_of_ble_eq_true rfl | simp) (by decide) rfl) ?_
                    rintro ⟨⟩
                    refine VL.r (.inl rfl) rfl (by decide) (yr_assign rfl rfl) ?_
                    refine VL.nil ?_
                    refine VE.then_wp ?_
                    refine V.seq ?_
                    refine V.region ?_
                    refine VL.new1 (.inl rfl) rfl (by decide) (yn_lit rfl Try.underlying42 elt23_Rt rfl (by decide) .nil (by first | (simp; done) | (simp [cn, cn1, cn0]; done)) rfl rfl rfl) ?_
                    intro b125
                    refine VL.r (.inl rfl) rfl (by decide) (yr_move rfl rfl) ?_
                    refine VL.c (.inl rfl) rfl (by decide) (yc_appendz 1 rfl rfl Try.underlying42 elt23_Rt rfl rfl (by repeat (first | exact UpdF.here | apply UpdF.there | apply UpdF.thereS)) (by first | exact Sees.root (by assumption) | exact Sees.own (by repeat (first | exact List.mem_cons_self | exact List.mem_append_left _ (by assumption) | apply List.mem_cons_of_mem | apply List.mem_append_right)) | exact Sees.root (hR _ (by omega)) | exact Sees.own (RowsIn.mem (by repeat (first | exact RowsIn.here | exact RowsIn.last | apply RowsIn.there | apply RowsIn.thereS)) _ (by omega)) | exact Sees.own (WRowsIn.mem (by repeat (first | exact WRowsIn.here | exact WRowsIn.last | apply WRowsIn.there | apply WRowsIn.thereS)) _ (by omega))) rfl (by rfl) (by rw [fl_length, Nat.mul_one]) (by rfl) (fl_scal _) (by (try dsimp only); have h71 := valid_small (valid_is (dd_valid hd28)); have h72 := dd_len0 hd28; have h73 := hd28.n2; have h74 := hd28.n1; have h75 := hd28.m1; have h76 := hd28.m2; omega) (by (try dsimp only); have h71 := valid_small (valid_is (dd_valid hd28)); have h72 := dd_len0 hd28; have h73 := hd28.n2; have h74 := hd28.n1; have h75 := hd28.m1; have h76 := hd28.m2; omega)) ?_
                    rintro ⟨a127, c127⟩
                    refine VL.r (.inl rfl) rfl (by decide) (yr_assign rfl rfl) ?_
                    refine VL.nil ?_
                    refine VE.then_wp ?_
                    refine V.seq ?_
                    refine V.region ?_
                    refine VL.r (.inl rfl) rfl (by decide) (yr_move rfl rfl) ?_
                    refine VL.r (.inl rfl) rfl (by decide) (yr_move rfl rfl) ?_
                    refine VL.r (.inl rfl) rfl (by decide) (yr_move rfl rfl) ?_
                    refine VL.r (.inl rfl) rfl (by decide) (yr_move rfl rfl) ?_
                    refine VL.q (.inl rfl) rfl (by decide) (yq_idx (k := x118) rfl Try.underlying42 sz23_Rt rfl rfl (by first | exact Sees.root (by assumption) | exact Sees.own (by repeat (first | exact List.mem_cons_self | exact List.mem_append_left _ (by assumption) | apply List.mem_cons_of_mem | apply List.mem_append_right)) | exact Sees.root (hR _ (by omega)) | exact Sees.own (RowsIn.mem (by repeat (first | exact RowsIn.here | exact RowsIn.last | apply RowsIn.there | apply RowsIn.thereS)) _ (by omega)) | exact Sees.own (WRowsIn.mem (by repeat (first | exact WRowsIn.here | exact WRowsIn.last | apply WRowsIn.there | apply WRowsIn.thereS)) _ (by omega))) (by first | rfl | omega | (push_cast; rfl) | (push_cast; omega) | exact tmod_nat _ _) (by first | exact hd_length _ _ | exact fl_length _ | (rw [List.nil_append, fl_length, Nat.zero_add])) (by (try dsimp only); have h71 := valid_small (valid_is (dd_valid hd28)); have h72 := dd_len0 hd28; have h73 := hd28.n2; have h74 := hd28.n1; have h75 := hd28.m1; have h76 := hd28.m2; omega)) ?_
                    refine VL.q (.inl rfl) rfl (by decide) (yq_loadF rfl fb23_Rt rfl (by first | exact Sees.root (by assumption) | exact Sees.own (by repeat (first | exact List.mem_cons_self | exact List.mem_append_left _ (by assumption) | apply List.mem_cons_of_mem | apply List.mem_append_right)) | exact Sees.root (hR _ (by omega)) | exact Sees.own (RowsIn.mem (by repeat (first | exact RowsIn.here | exact RowsIn.last | apply RowsIn.there | apply RowsIn.thereS)) _ (by omega)) | exact Sees.own (WRowsIn.mem (by repeat (first | exact WRowsIn.here | exact WRowsIn.last | apply WRowsIn.there | apply WRowsIn.thereS)) _ (by omega))) (by (try dsimp only); have h71 := valid_small (valid_is (dd_valid hd28)); have h72 := dd_len0 hd28; have h73 := hd28.n2; have h74 := hd28.n1; have h75 := hd28.m1; have h76 := hd28.m2; omega)) ?_
                    refine VL.r (.inl rfl) rfl (by decide) (yr_float (b := 1073741824) rfl (.inr (.inr (.inr rfl))) rfl rfl) ?_
                    refine VL.q (.inl rfl) rfl (by decide) (yq_idx (k := x118) rfl Try.underlying42 sz23_Rt rfl rfl (by first | exact Sees.root (by assumption) | exact Sees.own (by repeat (first | exact List.mem_cons_self | exact List.mem_append_left _ (by assumption) | apply List.mem_cons_of_mem | apply List.mem_append_right)) | exact Sees.root (hR _ (by omega)) | exact Sees.own (RowsIn.mem (by repeat (first | exact RowsIn.here | exact RowsIn.last | apply RowsIn.there | apply RowsIn.thereS)) _ (by omega)) | exact Sees.own (WRowsIn.mem (by repeat (first | exact WRowsIn.here | exact WRowsIn.last | apply WRowsIn.there | apply WRowsIn.thereS)) _ (by omega))) (by first | rfl | omega | (push_cast; rfl) | (push_cast; omega) | exact tmod_nat _ _) (by first | exact hd_length _ _ | exact fl_length _ | (rw [List.nil_append, fl_length, Nat.zero_add])) (by (try dsimp only); have h71 := valid_small (valid_is (dd_valid hd28)); have h72 := dd_len0 hd28; have h73 := hd28.n2; have h74 := hd28.n1; have h75 := hd28.m1; have h76 := hd28.m2; omega)) ?_
                    refine VL.s (.inl rfl) rfl (yc_store rfl sz23_Rt rfl rfl (by repeat (first | exact UpdF.here | apply UpdF.there | apply UpdF.thereS)) (.inl ⟨rfl, rfl⟩) rfl (by show x118 < (fl xs36).length; rw [fl_length]; omega) (by decide) (fl_set _ _ _)) ?_
                    rintro ⟨⟩
                    refine VL.nil ?_
                    refine VE.then_wp ?_
                    refine V.seq ?_
                    refine V.region ?_
                    refine VL.q (.inl rfl) rfl (by decide) (yq_loadS rfl Try.underlying46 sz46_Rt rfl (by first | exact Sees.root (by assumption) | exact Sees.own (by repeat (first | exact List.mem_cons_self | exact List.mem_append_left _ (by assumption) | apply List.mem_cons_of_mem | apply List.mem_append_right)) | exact Sees.root (hR _ (by omega)) | exact Sees.own (RowsIn.mem (by repeat (first | exact RowsIn.here | exact RowsIn.last | apply RowsIn.there | apply RowsIn.thereS)) _ (by omega)) | exact Sees.own (WRowsIn.mem (by repeat (first | exact WRowsIn.here | exact WRowsIn.last | apply WRowsIn.there | apply WRowsIn.thereS)) _ (by omega))) rfl rfl rfl) ?_
                    refine VL.r (.inl rfl) rfl (by decide) (yr_move rfl rfl) ?_
                    refine VL.q (.inl rfl) rfl (by decide) (yq_callf rfl known30_Rt (.cons rfl (.cons rfl .nil)) (fun w hw => (c_squareM (xss := mixS x118 1073741824 xss28 xss28.length) (x := xs36.set x118 (fop .quo .f32 (xs36.getD x118 0) 1073741824)) (by first | exact Sees.root (by assumption) w hw | exact Sees.own (by repeat (first | exact List.mem_cons_self | exact List.mem_append_left _ (by assumption) | apply List.mem_cons_of_mem | apply List.mem_append_right)) w hw) (by first | exact Rws.root (by assumption) hw | exact Rws.own (by repeat (first | exact RowsIn.here | exact RowsIn.last | apply RowsIn.there | apply RowsIn.thereS)) hw) (by first | exact Sees.root (by assumption) w hw | exact Sees.own (by repeat (first | exact List.mem_cons_self | exact List.mem_append_left _ (by assumption) | apply List.mem_cons_of_mem | apply List.mem_append_right)) w hw) (by first | exact Sees.root (by assumption) w hw | exact Sees.own (by repeat (first | exact List.mem_cons_self | exact List.mem_append_left _ (by assumption) | apply List.mem_cons_of_mem | apply List.mem_append_right)) w hw) (by first | exact Sees.root (by assumption) w hw | exact Sees.own (by repeat (first | exact List.mem_cons_self | exact List.mem_append_left _ (by assumption) | apply List.mem_cons_of_mem | apply List.mem_append_right)) w hw) (by have h78 := valid_small (valid_is (fits_valid z2)); (try dsimp only); exact Nat.le_trans h78 (by decide)) z2 (show _ = squareD xss28 ws28 gs28 xs36 by rw [squareD_yes z2, squareD_yes hrt.fit1]; exact z3) (by rw [List.length_set, Nat.zero_add])))) ?_
                    refine VL.r (.inl rfl) rfl (by decide) (yr_move rfl rfl) ?_
                    refine VL.r (.inl rfl) rfl (by decide) (yr_extract rfl rfl rfl (by nofun)) ?_
                    refine VL.r (.inl rfl) rfl (by decide) (yr_extract rfl rfl rfl (by nofun)) ?_
                    refine VL.r (.inl rfl) rfl (by decide) (yr_assign rfl rfl) ?_
                    refine VL.r (.inl rfl) rfl (by decide) (yr_assign rfl rfl) ?_
                    refine VL.nil ?_
                    refine VE.then_wp ?_
                    refine V.seq ?_
                    refine V.region ?_
                    refine VL.r (.inl rfl) rfl (by decide) (yr_move rfl rfl) ?_
                    refine VL.r (.inl rfl) rfl (by decide) (yr_move rfl rfl) ?_
                    refine VX.split 143 _ rfl (fun h10 => ?_) (fun h10 => ?_)
                    · skip
                      refine VL.r (.inr ⟨_, _, _, rfl, rfl, rfl⟩) rfl (by decide) (yr_move rfl rfl) ?_
                      refine VL.r (.inl rfl) rfl (by decide) (yr_pick_t rfl rfl rfl) ?_
                      refine VL.r (.inl rfl) rfl (by decide) (yr_move rfl rfl) ?_
                      refine VX.split 146 _ rfl (fun h11 => ?_) (fun h11 => ?_)
                      · skip
                        refine VL.r (.inr ⟨_, _, _, rfl, rfl, rfl⟩) rfl (by decide) (yr_move rfl rfl) ?_
                        refine VL.r (.inr ⟨_, _, _, rfl, rfl, rfl⟩) rfl (by decide) (yr_fconv rfl Try.underlying23 Try.underlying59 (by decide) rfl (fover_up _)) ?_
                        refine VL.r (.inr ⟨_, _, _, rfl, rfl, rfl⟩) rfl (by decide) (yr_move rfl rfl) ?_
                        refine VL.r (.inr ⟨_, _, _, rfl, rfl, rfl⟩) rfl (by decide) (yr_fconv rfl Try.underlying23 Try.underlying59 (by decide) rfl (fover_up _)) ?_
                        refine VL.q (.inr ⟨_, _, _, rfl, rfl, rfl⟩) rfl (by decide) (yq_callf rfl known39_Rt (.cons rfl (.cons rfl .nil)) (fun w hw => (c_b10GapE (dy_up hrt.dy1) (dy_up hrt.dy1)))) ?_
                        refine VL.r (.inr ⟨_, _, _, rfl, rfl, rfl⟩) rfl (by decide) (yr_move rfl rfl) ?_
                        refine VL.r (.inr ⟨_, _, _, rfl, rfl, rfl⟩) rfl (by decide) (yr_fconv rfl Try.underlying23 Try.underlying59 (by decide) rfl (fover_up _)) ?_
                        refine VL.r (.inr ⟨_, _, _, rfl, rfl, rfl⟩) rfl (by decide) (yr_float (a := 4607182418800017408) rfl (.inl rfl) rfl rfl) ?_
                        refine VL.r (.inr ⟨_, _, _, rfl, rfl, rfl⟩) rfl (by decide) (yr_float (a := 4562254508917369340) rfl (.inr (.inr (.inl rfl))) rfl rfl) ?_
                        refine VL.r (.inr ⟨_, _, _, rfl, rfl, rfl⟩) rfl (by decide) (yr_fcmp rfl (.inr (.inr (.inl rfl))) rfl rfl) ?_
                        refine VL.r (.inl rfl) rfl (by decide) (yr_pick_t rfl rfl rfl) ?_
                        refine VL.r (.inl rfl) rfl (by decide) (yr_assign rfl rfl) ?_
                        refine VL.nil ?_
                        refine VE.then_wp ?_
                        refine V.ret ?_
                        refine ret1 rfl rfl (fun w1 hw => ?_)
                        exact ⟨congrArg Value.bool (is_lss (rt_lt hrt.hS hrt.dy1 (gap0 (dy_up hrt.dy1) (dy_up hrt.dy1)) c001 (by decide) (by decide))), hw.below⟩
                      · skip
                        cases h11
                    · skip
                      cases h10

end Go.Proofs.Ytfignpiphihgfaa

