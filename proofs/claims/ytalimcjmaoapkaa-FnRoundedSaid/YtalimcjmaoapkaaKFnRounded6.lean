/- Own texts of this claim, merged: WRn. -/
import Derived.KernelRfl
import Derived.Test.YtalimcjmaoapkaaKFnRounded5
namespace Go.Proofs.Ytalimcjmaoapkaa
open Go.RowKit
set_option linter.unusedVariables false
set_option linter.unusedSimpArgs false
set_option maxRecDepth 20000

theorem known4_Rn : Known Try.prog 4 := Known.mk' Try.func4 (by kernel_rfl)
theorem known5_Rn : Known Try.prog 5 := Known.mk' Try.func5 (by kernel_rfl)
theorem zero27_Rn : (Try.prog.info? 27).bind (·.zero) = some (Value.agg #[Value.slice none 0 0, Value.slice none 0 0, Value.slice none 0 0]) := by kernel_rfl
theorem sz27_Rn : (Try.prog.info? 27).map (·.size) = some 3 := by kernel_rfl
theorem sz24_Rn : (Try.prog.info? 24).map (·.size) = some 1 := by kernel_rfl
theorem fb24_Rn : flatB Try.prog 24 = true := by kernel_rfl
theorem sz25_Rn : (Try.prog.info? 25).map (·.size) = some 1 := by kernel_rfl
theorem fb25_Rn : flatB Try.prog 25 = true := by kernel_rfl
theorem known6_Rn : Known Try.prog 6 := Known.mk' Try.func6 (by kernel_rfl)
theorem known7_Rn : Known Try.prog 7 := Known.mk' Try.func7 (by kernel_rfl)
theorem known8_Rn : Known Try.prog 8 := Known.mk' Try.func8 (by kernel_rfl)
theorem known9_Rn : Known Try.prog 9 := Known.mk' Try.func9 (by kernel_rfl)
theorem known10_Rn : Known Try.prog 10 := Known.mk' Try.func10 (by kernel_rfl)
theorem sz33_Rn : (Try.prog.info? 33).map (·.size) = some 1 := by kernel_rfl
theorem fb33_Rn : flatB Try.prog 33 = true := by kernel_rfl
theorem mixed_Rn : Try.prog.follows .mixedOrders = true := by kernel_rfl
theorem known11_Rn : Known Try.prog 11 := Known.mk' Try.func11 (by kernel_rfl)
theorem elt33_Rn : Elt Try.prog 33 [Value.float .f32 0] 4 := Elt.mk' (by kernel_rfl) (by decide)
theorem known12_Rn : Known Try.prog 12 := Known.mk' Try.func12 (by kernel_rfl)
theorem known13_Rn : Known Try.prog 13 := Known.mk' Try.func13 (by kernel_rfl)
theorem known14_Rn : Known Try.prog 14 := Known.mk' Try.func14 (by kernel_rfl)
theorem known15_Rn : Known Try.prog 15 := Known.mk' Try.func15 (by kernel_rfl)
attribute [local irreducible] fop fcmp fconv fneg fabs List.getD qw hqw w2w g2w squareD sqK fitsD stepsOf stepsOk impOk impD limOk limD sgnOk sgnD missesD worstOk worstI worstF stepOf impF limR sgnR sgn0 gapW hw2

theorem c_stepsE {w : World} {a : Option Addr} {c : Nat} {xs : List Nat} {unit : Nat} (hA : Cl w a (fl xs)) (hn : xs.length ≤ 1050000) {ys : List Nat} (hok : stepsOk xs unit = true) (e : stepsOf xs unit = ys) : New Try.prog 8 [.slice a xs.length c, .float .f32 unit] w (fun p : Option Addr × Nat => .tuple #[.slice p.1 ys.length p.2, .bool true]) (fun p => [⟨p.1, fl ys, p.2 * 1, 33⟩]) := by
  have h := c_implStepsOf (w := w) (a := a) (c := c) (xs := xs) (unit := unit) hA hn
  rw [e, hok] at h
  exact h
theorem c_impE {w : World} {a a1 a2 : Option Addr} {c c1 c2 : Nat} {f : Nat → Option Addr × Nat} {xss : List (List Nat)} {ws gs : List Nat} {b : Option Addr} {d : Nat} {x : List Nat} {unit : Nat} {rn : Int} (hA : Cl w a (hd f xss)) (hR : Rws w f xss) (hW : Cl w a1 (fl ws)) (hG : Cl w a2 (fl gs)) (hB : Cl w b (fl x)) (hsz : bulk xss + ws.length + gs.length ≤ 1050000) {s : List Nat × Nat} (hok : impOk xss ws gs x unit rn = true) (e : impD xss ws gs x unit rn = s) : New Try.prog 9 [.agg #[.slice a xss.length c, .slice a1 ws.length c1, .slice a2 gs.length c2], .slice b x.length d, .float .f32 unit, .int .i64 rn] w (fun p : Option Addr × Nat => .tuple #[.slice p.1 s.1.length p.2, .int .i64 (s.2 : Nat), .bool true]) (fun p => [⟨p.1, fl s.1, p.2 * 1, 33⟩]) := by
  have h := c_implImp (w := w) (a := a) (a1 := a1) (a2 := a2) (c := c) (c1 := c1) (c2 := c2) (f := f) (xss := xss) (ws := ws) (gs := gs) (b := b) (d := d) (x := x) (unit := unit) (rn := rn) hA hR hW hG hB hsz
  rw [e, hok] at h
  exact h
theorem c_sgnE {w : World} {a a1 a2 : Option Addr} {c c1 c2 : Nat} {f : Nat → Option Addr × Nat} {xss : List (List Nat)} {ws gs : List Nat} {size : Nat} {rn : Int} (hA : Cl w a (hd f xss)) (hR : Rws w f xss) (hW : Cl w a1 (fl ws)) (hG : Cl w a2 (fl gs)) (hsz : bulk xss + ws.length + gs.length ≤ 1050000) {ys : List Nat} (hok : sgnOk xss ws gs size rn = true) (e : sgnD xss ws gs size rn = ys) : New Try.prog 13 [.agg #[.slice a xss.length c, .slice a1 ws.length c1, .slice a2 gs.length c2], .float .f32 size, .int .i64 rn] w (fun p : Option Addr × Nat => .tuple #[.slice p.1 ys.length p.2, .bool true]) (fun p => [⟨p.1, fl ys, p.2 * 1, 33⟩]) := by
  have h := c_implSign (w := w) (a := a) (a1 := a1) (a2 := a2) (c := c) (c1 := c1) (c2 := c2) (f := f) (xss := xss) (ws := ws) (gs := gs) (size := size) (rn := rn) hA hR hW hG hsz
  rw [e, hok] at h
  exact h
theorem c_missE {w : World} {a a1 a2 : Option Addr} {c c1 c2 : Nat} {f : Nat → Option Addr × Nat} {xss : List (List Nat)} {ws gs : List Nat} {b : Option Addr} {d : Nat} {x : List Nat} (hA : Cl w a (hd f xss)) (hR : Rws w f xss) (hW : Cl w a1 (fl ws)) (hG : Cl w a2 (fl gs)) (hB : Cl w b (fl x)) (hsz : bulk xss + ws.length + gs.length ≤ 1050000) {ys : List Nat} (hok : fitsD xss ws gs x = true) (e : missesD xss ws gs x = ys) : New Try.prog 14 [.agg #[.slice a xss.length c, .slice a1 ws.length c1, .slice a2 gs.length c2], .slice b x.length d] w (fun p : Option Addr × Nat => .tuple #[.slice p.1 ys.length p.2, .bool true]) (fun p => [⟨p.1, fl ys, p.2 * 1, 33⟩]) := by
  have h := c_implMisses (w := w) (a := a) (a1 := a1) (a2 := a2) (c := c) (c1 := c1) (c2 := c2) (f := f) (xss := xss) (ws := ws) (gs := gs) (b := b) (d := d) (x := x) hA hR hW hG hB hsz
  rw [e, hok] at h
  exact h
theorem c_worstE {w : World} {a a1 a2 : Option Addr} {c c1 c2 : Nat} {f : Nat → Option Addr × Nat} {xss : List (List Nat)} {ws gs : List Nat} {b : Option Addr} {d : Nat} {x : List Nat} (hA : Cl w a (hd f xss)) (hR : Rws w f xss) (hW : Cl w a1 (fl ws)) (hG : Cl w a2 (fl gs)) (hB : Cl w b (fl x)) (hsz : bulk xss + ws.length + gs.length ≤ 1050000) (hok : worstOk xss ws gs x = true) : Pure Try.prog 15 [.agg #[.slice a xss.length c, .slice a1 ws.length c1, .slice a2 gs.length c2], .slice b x.length d] w (.tuple #[.int .i64 (worstI xss ws gs x), .float .f32 (worstF xss ws gs x), .bool true]) := by
  have h := c_implWorst (w := w) (a := a) (a1 := a1) (a2 := a2) (c := c) (c1 := c1) (c2 := c2) (f := f) (xss := xss) (ws := ws) (gs := gs) (b := b) (d := d) (x := x) hA hR hW hG hB hsz
  rw [hok] at h
  exact h
theorem c_limZ {w : World} {a a1 a2 : Option Addr} {c c1 c2 : Nat} {f : Nat → Option Addr × Nat} {xss : List (List Nat)} {ws gs : List Nat} {b : Option Addr} {d : Nat} {m : Nat} {most : Nat} {rn : Int} (hA : Cl w a (hd f xss)) (hR : Rws w f xss) (hW : Cl w a1 (fl ws)) (hG : Cl w a2 (fl gs)) (hB : Cl w b (cycle [Value.float .f32 0] m)) (hsz : bulk xss + ws.length + gs.length ≤ 1050000) {ys : List Nat} (hok : limOk xss ws gs (List.replicate m 0) most rn = true) (e : limD xss ws gs (List.replicate m 0) most rn = ys) : New Try.prog 12 [.agg #[.slice a xss.length c, .slice a1 ws.length c1, .slice a2 gs.length c2], .slice b m d, .float .f32 most, .int .i64 rn] w (fun p : Option Addr × Nat => .tuple #[.slice p.1 ys.length p.2, .bool true]) (fun p => [⟨p.1, fl ys, p.2 * 1, 33⟩]) := by
  rw [fl_zeros] at hB
  have h := c_implLim (w := w) (x := List.replicate m 0) (a := a) (a1 := a1) (a2 := a2) (c := c) (c1 := c1) (c2 := c2) (f := f) (xss := xss) (ws := ws) (gs := gs) (b := b) (d := d) (most := most) (rn := rn) hA hR hW hG hB hsz
  rw [e, hok, List.length_replicate] at h
  exact h
theorem c_sqZ {w : World} {a a1 a2 : Option Addr} {c c1 c2 : Nat} {f : Nat → Option Addr × Nat} {xss : List (List Nat)} {ws gs : List Nat} {b : Option Addr} {d : Nat} {m : Nat} (hA : Cl w a (hd f xss)) (hR : Rws w f xss) (hW : Cl w a1 (fl ws)) (hG : Cl w a2 (fl gs)) (hB : Cl w b (cycle [Value.float .f32 0] m)) (hsz : bulk xss + ws.length + gs.length ≤ 1050000) {s : Nat} (hok : fitsD xss ws gs (List.replicate m 0) = true) (e : squareD xss ws gs (List.replicate m 0) = s) : Pure Try.prog 10 [.agg #[.slice a xss.length c, .slice a1 ws.length c1, .slice a2 gs.length c2], .slice b m d] w (.tuple #[.float .f32 s, .bool true]) := by
  rw [fl_zeros] at hB
  have h := c_implSquare (w := w) (x := List.replicate m 0) (a := a) (a1 := a1) (a2 := a2) (c := c) (c1 := c1) (c2 := c2) (f := f) (xss := xss) (ws := ws) (gs := gs) (b := b) (d := d) hA hR hW hG hB hsz
  rw [e, hok, List.length_replicate] at h
  exact h
theorem c_sqE {w : World} {a a1 a2 : Option Addr} {c c1 c2 : Nat} {f : Nat → Option Addr × Nat} {xss : List (List Nat)} {ws gs : List Nat} {b : Option Addr} {d : Nat} {x : List Nat} (hA : Cl w a (hd f xss)) (hR : Rws w f xss) (hW : Cl w a1 (fl ws)) (hG : Cl w a2 (fl gs)) (hB : Cl w b (fl x)) (hsz : bulk xss + ws.length + gs.length ≤ 1050000) {s : Nat} (hok : fitsD xss ws gs x = true) (e : squareD xss ws gs x = s) : Pure Try.prog 10 [.agg #[.slice a xss.length c, .slice a1 ws.length c1, .slice a2 gs.length c2], .slice b x.length d] w (.tuple #[.float .f32 s, .bool true]) := by
  have h := c_implSquare (w := w) (a := a) (a1 := a1) (a2 := a2) (c := c) (c1 := c1) (c2 := c2) (f := f) (xss := xss) (ws := ws) (gs := gs) (b := b) (d := d) (x := x) hA hR hW hG hB hsz
  rw [e, hok] at h
  exact h
theorem c_b10GapW {w : World} {x y : Nat} : Pure Try.prog 11 [.float .f64 x, .float .f64 y] w (.float .f64 (gapW x y)) := by
  refine Pure.enter Try.func11 rfl Try.ntmps11 (Nat.le_of_ble_eq_true rfl) ?_
  refine V.seq ?_
  refine V.region ?_
  refine VL.r (.inl rfl) rfl (by decide) (yr_assign (u := .float .f64 0) rfl rfl) ?_
  refine VL.nil ?_
  refine VE.then_wp ?_
  refine V.seq ?_
  refine V.seq ?_
  refine V.region ?_
  refine VL.r (.inl rfl) rfl (by decide) (yr_move rfl rfl) ?_
  refine VL.r (.inl rfl) rfl (by decide) (yr_move rfl rfl) ?_
  refine VL.r (.inl rfl) rfl (by decide) (yr_fcmp rfl (.inr (.inr (.inl rfl))) rfl rfl) ?_
  refine VL.nil ?_
  refine VE.then_wp ?_
  refine V.cond rfl (fun h1 => ?_) (fun h1 => ?_)
  · skip
    refine V.seq ?_
    refine V.region ?_
    refine VL.r (.inl rfl) rfl (by decide) (yr_move rfl rfl) ?_
    refine VL.r (.inl rfl) rfl (by decide) (yr_move rfl rfl) ?_
    refine VL.r (.inl rfl) rfl (by decide) (yr_float rfl (.inr (.inl rfl)) rfl rfl) ?_
    refine VL.r (.inl rfl) rfl (by decide) (yr_assign rfl rfl) ?_
    refine VL.nil ?_
    refine VE.then_wp ?_
    refine V.ret ?_
    refine VE.then_ret ?_
    refine ret1 rfl rfl (fun w1 hw => ?_)
    exact ⟨congrArg (Value.float .f64) (by unfold gapW; rw [if_pos (by assumption)]), hw.below⟩
  · skip
    refine V.skip ?_
    refine VE.then_wp ?_
    refine V.seq ?_
    refine V.region ?_
    refine VL.r (.inl rfl) rfl (by decide) (yr_move rfl rfl) ?_
    refine VL.r (.inl rfl) rfl (by decide) (yr_move rfl rfl) ?_
    refine VL.r (.inl rfl) rfl (by decide) (yr_float rfl (.inr (.inl rfl)) rfl rfl) ?_
    refine VL.r (.inl rfl) rfl (by decide) (yr_assign rfl rfl) ?_
    refine VL.nil ?_
    refine VE.then_wp ?_
    refine V.ret ?_
    refine ret1 rfl rfl (fun w1 hw => ?_)
    exact ⟨congrArg (Value.float .f64) (by unfold gapW; rw [if_neg (by simp [*])]), hw.below⟩

theorem law_Rounded {w : World} {a b : Option Addr} {c d : Nat} {bs cs : List Int} (hA : Cl w a (bl bs)) (hB : Cl w b (bl cs)) (hb : Bytes bs) (hcb : Bytes cs) : Pure Try.prog 3 [.slice a bs.length c, .slice b cs.length d] w (.bool true) := by
  refine Pure.enter Try.func3 rfl Try.ntmps3 (Nat.le_of_ble_eq_true rfl) ?_
  refine V.seq ?_
  refine V.region ?_
  refine VL.r (.inl rfl) rfl (by decide) (yr_assign (u := .bool false) rfl rfl) ?_
  refine VL.nil ?_
  refine VE.then_wp ?_
  refine V.seq ?_
  refine V.seq ?_
  refine V.region ?_
  refine VL.r (.inl rfl) rfl (by decide) (yr_move rfl rfl) ?_
  refine VL.r (.inl rfl) rfl (by decide) (yr_move rfl rfl) ?_
  refine VL.q (.inl rfl) rfl (by decide) (yq_callf rfl known4_Rn (.cons rfl (.cons rfl .nil)) (fun w hw => c_b10Long)) ?_
  refine VL.nil ?_
  refine VE.then_wp ?_
  refine V.cond rfl (fun h1 => ?_) (fun h1 => ?_)
  · skip
    refine V.seq ?_
    refine V.region ?_
    refine VL.r (.inl rfl) rfl (by decide) (yr_assign (u := .bool true) rfl rfl) ?_
    refine VL.nil ?_
    refine VE.then_wp ?_
    refine V.ret ?_
    refine VE.then_ret ?_
    refine ret1 rfl rfl (fun w1 hw => ?_)
    exact ⟨rfl, hw.below⟩
  · skip
    rw [Bool.or_eq_false_iff, decide_eq_false_iff_not, decide_eq_false_iff_not] at h1
    have hl1 := h1.1
    have hl2 := h1.2
    refine V.skip ?_
    refine VE.then_wp ?_
    refine V.seq ?_
    refine V.region ?_
    refine VL.r (.inl rfl) rfl (by decide) (yr_move rfl rfl) ?_
    refine VL.new (.inl rfl) rfl (by decide) (yn_callf rfl known5_Rn (.cons rfl .nil) (fun w hw => (c_b10Design (by first | exact Sees.root (by assumption) w hw | exact Sees.own (by repeat (first | exact List.mem_cons_self | exact List.mem_append_left _ (by assumption) | apply List.mem_cons_of_mem | apply List.mem_append_right)) w hw) hb (by omega)))) ?_
    rintro ⟨⟨⟨⟨⟨a40, c40⟩, f40⟩, ⟨p40, q40⟩, ⟨r40, s40⟩⟩, xss40, ws40, gs40, n40, at40, sd40⟩, hd40⟩
    dsimp only at hd40
    refine VL.new1 (.inl rfl) rfl (by decide) (yn_alloc rfl zero27_Rn rfl) ?_
    intro b5
    refine VL.s (.inl rfl) rfl (yc_store rfl sz27_Rn rfl rfl (by repeat (first | exact UpdF.here | apply UpdF.there | apply UpdF.thereS)) (.inr ⟨rfl, rfl⟩) rfl (by first | exact Nat.le_of_ble_eq_true rfl | simp) (by decide) rfl) ?_
    rintro ⟨⟩
    refine VL.nil ?_
    refine VE.then_wp ?_
    refine V.seq ?_
    refine V.region ?_
    refine VL.r (.inl rfl) rfl (by decide) (yr_fieldAddr rfl Try.underlying27 rfl rfl sz24_Rn (by decide) rfl) ?_
    refine VL.q (.inl rfl) rfl (by decide) (yq_load rfl fb24_Rn rfl (by first | exact Sees.root (by assumption) | exact Sees.own (by repeat (first | exact List.mem_cons_self | exact List.mem_append_left _ (by assumption) | apply List.mem_cons_of_mem | apply List.mem_append_right)) | exact Sees.root (hR _ (by omega)) | exact Sees.own (RowsIn.mem (by repeat (first | exact RowsIn.here | exact RowsIn.last | apply RowsIn.there | apply RowsIn.thereS)) _ (by omega)) | exact Sees.own (WRowsIn.mem (by repeat (first | exact WRowsIn.here | exact WRowsIn.last | apply WRowsIn.there | apply WRowsIn.thereS)) _ (by omega))) rfl) ?_
    refine VL.q (.inl rfl) rfl (by decide) (yq_idx (k := 0) rfl Try.underlying24 sz25_Rn rfl rfl (by first | exact Sees.root (by assumption) | exact Sees.own (by repeat (first | exact List.mem_cons_self | exact List.mem_append_left _ (by assumption) | apply List.mem_cons_of_mem | apply List.mem_append_right)) | exact Sees.root (hR _ (by omega)) | exact Sees.own (RowsIn.mem (by repeat (first | exact RowsIn.here | exact RowsIn.last | apply RowsIn.there | apply RowsIn.thereS)) _ (by omega)) | exact Sees.own (WRowsIn.mem (by repeat (first | exact WRowsIn.here | exact WRowsIn.last | apply WRowsIn.there | apply WRowsIn.thereS)) _ (by omega))) (by first | rfl | omega | (push_cast; rfl) | (push_cast; omega) | exact tmod_nat _ _) (by first | exact hd_length _ _ | exact fl_length _) (by (try dsimp only); have h71 := valid_small (valid_is (dd_valid hd40)); have h72 := dd_len0 hd40; have h73 := hd40.n2; have h74 := hd40.n1; have h75 := hd40.m1; have h76 := hd40.m2; omega)) ?_
    refine VL.q (.inl rfl) rfl (by decide) (yq_loadH rfl fb25_Rn rfl (by first | exact Sees.root (by assumption) | exact Sees.own (by repeat (first | exact List.mem_cons_self | exact List.mem_append_left _ (by assumption) | apply List.mem_cons_of_mem | apply List.mem_append_right)) | exact Sees.root (hR _ (by omega)) | exact Sees.own (RowsIn.mem (by repeat (first | exact RowsIn.here | exact RowsIn.last | apply RowsIn.there | apply RowsIn.thereS)) _ (by omega)) | exact Sees.own (WRowsIn.mem (by repeat (first | exact WRowsIn.here | exact WRowsIn.last | apply WRowsIn.there | apply WRowsIn.thereS)) _ (by omega))) (by (try dsimp only); have h71 := valid_small (valid_is (dd_valid hd40)); have h72 := dd_len0 hd40; have h73 := hd40.n2; have h74 := hd40.n1; have h75 := hd40.m1; have h76 := hd40.m2; omega)) ?_
    refine VL.r (.inl rfl) rfl (by decide) (yr_len rfl Try.underlying25 rfl) ?_
    refine VL.r (.inl rfl) rfl (by decide) (yr_assign rfl rfl) ?_
    refine VL.nil ?_
    refine VE.then_wp ?_
    refine V.seq ?_
    refine V.region ?_
    refine VL.r (.inl rfl) rfl (by decide) (yr_move rfl rfl) ?_
    refine VL.r (.inl rfl) rfl (by decide) (yr_move rfl rfl) ?_
    refine VL.new (.inl rfl) rfl (by decide) (yn_callf rfl known6_Rn (.cons rfl (.cons rfl .nil)) (fun w hw => (c_b10X (m := (xss40.getD 0 []).length) (by first | exact Sees.root (by assumption) w hw | exact Sees.own (by repeat (first | exact List.mem_cons_self | exact List.mem_append_left _ (by assumption) | apply List.mem_cons_of_mem | apply List.mem_append_right)) w hw) hcb (by omega) (by (try dsimp only); have h71 := valid_small (valid_is (dd_valid hd40)); have h72 := dd_len0 hd40; have h73 := hd40.n2; have h74 := hd40.n1; have h75 := hd40.m1; have h76 := hd40.m2; omega)))) ?_
    rintro ⟨⟨⟨a48, c48⟩, xs48⟩, hl48, hq48⟩
    dsimp only at hl48 hq48
    have hl9 := hl48.trans (dd_len0 hd40)
    refine VL.r (.inl rfl) rfl (by decide) (yr_assign rfl rfl) ?_
    refine VL.nil ?_
    refine VE.then_wp ?_
    refine V.seq ?_
    refine V.region ?_
    refine VL.r (.inl rfl) rfl (by decide) (yr_move rfl rfl) ?_
    refine VL.new (.inl rfl) rfl (by decide) (yn_callf rfl known7_Rn (.cons rfl (.cons rfl (.cons rfl .nil))) (fun w hw => (c_b10At (k := 0) (m := 6) (by first | exact Sees.root (by assumption) w hw | exact Sees.own (by repeat (first | exact List.mem_cons_self | exact List.mem_append_left _ (by assumption) | apply List.mem_cons_of_mem | apply List.mem_append_right)) w hw) hcb (by omega) (by decide) (by omega)))) ?_
    rintro ⟨x50, hx50⟩
    refine VL.r (.inl rfl) rfl (by decide) (yr_assign rfl rfl) ?_
    refine VL.nil ?_
    refine VE.then_wp ?_
    refine V.seq ?_
    refine V.region ?_
    refine VL.r (.inl rfl) rfl (by decide) (yr_move rfl rfl) ?_
    refine VL.new1 (.inl rfl) rfl (by decide) (yn_callf rfl known8_Rn (.cons rfl (.cons rfl .nil)) (fun w hw => (c_stepsE (ys := (xs48.map (stepOf hf5))) (by first | exact Sees.root (by assumption) w hw | exact Sees.own (by repeat (first | exact List.mem_cons_self | exact List.mem_append_left _ (by assumption) | apply List.mem_cons_of_mem | apply List.mem_append_right)) w hw) (by (try dsimp only); have h71 := valid_small (valid_is (dd_valid hd40)); have h72 := dd_len0 hd40; have h73 := hd40.n2; have h74 := hd40.n1; have h75 := hd40.m1; have h76 := hd40.m2; omega) (steps_ok hd40 hl9).1 (steps_ok hd40 hl9).2))) ?_
    rintro ⟨a53, c53⟩
    refine VL.r (.inl rfl) rfl (by decide) (yr_move rfl rfl) ?_
    refine VL.r (.inl rfl) rfl (by decide) (yr_extract rfl rfl rfl (by nofun)) ?_
    refine VL.r (.inl rfl) rfl (by decide) (yr_extract rfl rfl rfl (by nofun)) ?_
    refine VL.r (.inl rfl) rfl (by decide) (yr_assign rfl rfl) ?_
    refine VL.r (.inl rfl) rfl (by decide) (yr_assign rfl rfl) ?_
    refine VL.nil ?_
    refine VE.then_wp ?_
    refine V.seq ?_
    refine V.region ?_
    refine VL.q (.inl rfl) rfl (by decide) (yq_loadS rfl Try.underlying27 sz27_Rn rfl (by first | exact Sees.root (by assumption) | exact Sees.own (by repeat (first | exact List.mem_cons_self | exact List.mem_append_left _ (by assumption) | apply List.mem_cons_of_mem | apply List.mem_append_right)) | exact Sees.root (hR _ (by omega)) | exact Sees.own (RowsIn.mem (by repeat (first | exact RowsIn.here | exact RowsIn.last | apply RowsIn.there | apply RowsIn.thereS)) _ (by omega)) | exact Sees.own (WRowsIn.mem (by repeat (first | exact WRowsIn.here | exact WRowsIn.last | apply WRowsIn.there | apply WRowsIn.thereS)) _ (by omega))) rfl rfl rfl) ?_
    refine VL.r (.inl rfl) rfl (by decide) (yr_move rfl rfl) ?_
    refine VL.r (.inl rfl) rfl (by decide) (yr_move rfl rfl) ?_
    refine VL.new1 (.inl rfl) rfl (by decide) (yn_callf rfl known9_Rn (.cons rfl (.cons rfl (.cons rfl (.cons rfl .nil)))) (fun w hw => (c_impE (x := (xs48.map (stepOf hf5))) (s := (impF (SQ xss40 ws40 gs40) hf5 (xs48.map (stepOf hf5), 0) x50)) (by first | exact Sees.root (by assumption) w hw | exact Sees.own (by repeat (first | exact List.mem_cons_self | exact List.mem_append_left _ (by assumption) | apply List.mem_cons_of_mem | apply List.mem_append_right)) w hw) (by first | exact Rws.root (by assumption) hw | exact Rws.own (by repeat (first | exact RowsIn.here | exact RowsIn.last | apply RowsIn.there | apply RowsIn.thereS)) hw) (by first | exact Sees.root (by assumption) w hw | exact Sees.own (by repeat (first | exact List.mem_cons_self | exact List.mem_append_left _ (by assumption) | apply List.mem_cons_of_mem | apply List.mem_append_right)) w hw) (by first | exact Sees.root (by assumption) w hw | exact Sees.own (by repeat (first | exact List.mem_cons_self | exact List.mem_append_left _ (by assumption) | apply List.mem_cons_of_mem | apply List.mem_append_right)) w hw) (by first | exact Sees.root (by assumption) w hw | exact Sees.own (by repeat (first | exact List.mem_cons_self | exact List.mem_append_left _ (by assumption) | apply List.mem_cons_of_mem | apply List.mem_append_right)) w hw) (by (try dsimp only); have h71 := valid_small (valid_is (dd_valid hd40)); have h72 := dd_len0 hd40; have h73 := hd40.n2; have h74 := hd40.n1; have h75 := hd40.m1; have h76 := hd40.m2; omega) (imp_yes hd40 hl9 (show x50 ≤ 5 by omega)).1 (imp_yes hd40 hl9 (show x50 ≤ 5 by omega)).2))) ?_
    rintro ⟨a60, c60⟩
    refine VL.r (.inl rfl) rfl (by decide) (yr_move rfl rfl) ?_
    refine VL.r (.inl rfl) rfl (by decide) (yr_extract rfl rfl rfl (by nofun)) ?_
    refine VL.r (.inl rfl) rfl (by decide) (yr_extract rfl rfl rfl (by nofun)) ?_
    refine VL.r (.inl rfl) rfl (by decide) (yr_extract rfl rfl rfl (by nofun)) ?_
    refine VL.r (.inl rfl) rfl (by decide) (yr_assign rfl rfl) ?_
    refine VL.r (.inl rfl) rfl (by decide) (yr_assign rfl rfl) ?_
    refine VL.r (.inl rfl) rfl (by decide) (yr_assign rfl rfl) ?_
    refine VL.nil ?_
    refine VE.then_wp ?_
    refine V.seq ?_
    refine V.region ?_
    refine VL.q (.inl rfl) rfl (by decide) (yq_loadS rfl Try.underlying27 sz27_Rn rfl (by first | exact Sees.root (by assumption) | exact Sees.own (by repeat (first | exact List.mem_cons_self | exact List.mem_append_left _ (by assumption) | apply List.mem_cons_of_mem | apply List.mem_append_right)) | exact Sees.root (hR _ (by omega)) | exact Sees.own (RowsIn.mem (by repeat (first | exact RowsIn.here | exact RowsIn.last | apply RowsIn.there | apply RowsIn.thereS)) _ (by omega)) | exact Sees.own (WRowsIn.mem (by repeat (first | exact WRowsIn.here | exact WRowsIn.last | apply WRowsIn.there | apply WRowsIn.thereS)) _ (by omega))) rfl rfl rfl) ?_
    refine VL.r (.inl rfl) rfl (by decide) (yr_move rfl rfl) ?_
    refine VL.q (.inl rfl) rfl (by decide) (yq_callf rfl known10_Rn (.cons rfl (.cons rfl .nil)) (fun w hw => (c_sqE (x := (xs48.map (stepOf hf5))) (by first | exact Sees.root (by assumption) w hw | exact Sees.own (by repeat (first | exact List.mem_cons_self | exact List.mem_append_left _ (by assumption) | apply List.mem_cons_of_mem | apply List.mem_append_right)) w hw) (by first | exact Rws.root (by assumption) hw | exact Rws.own (by repeat (first | exact RowsIn.here | exact RowsIn.last | apply RowsIn.there | apply RowsIn.thereS)) hw) (by first | exact Sees.root (by assumption) w hw | exact Sees.own (by repeat (first | exact List.mem_cons_self | exact List.mem_append_left _ (by assumption) | apply List.mem_cons_of_mem | apply List.mem_append_right)) w hw) (by first | exact Sees.root (by assumption) w hw | exact Sees.own (by repeat (first | exact List.mem_cons_self | exact List.mem_append_left _ (by assumption) | apply List.mem_cons_of_mem | apply List.mem_append_right)) w hw) (by first | exact Sees.root (by assumption) w hw | exact Sees.own (by repeat (first | exact List.mem_cons_self | exact List.mem_append_left _ (by assumption) | apply List.mem_cons_of_mem | apply List.mem_append_right)) w hw) (by (try dsimp only); have h71 := valid_small (valid_is (dd_valid hd40)); have h72 := dd_len0 hd40; have h73 := hd40.n2; have h74 := hd40.n1; have h75 := hd40.m1; have h76 := hd40.m2; omega) (dd_fits hd40 (by rw [List.length_map]; exact hl9)) (sq_yes hd40 (by rw [List.length_map]; exact hl9))))) ?_
    refine VL.r (.inl rfl) rfl (by decide) (yr_move rfl rfl) ?_
    refine VL.r (.inl rfl) rfl (by decide) (yr_extract rfl rfl rfl (by nofun)) ?_
    refine VL.r (.inl rfl) rfl (by decide) (yr_extract rfl rfl rfl (by nofun)) ?_
    refine VL.r (.inl rfl) rfl (by decide) (yr_assign rfl rfl) ?_
    refine VL.r (.inl rfl) rfl (by decide) (yr_assign rfl rfl) ?_
    refine VL.nil ?_
    refine VE.then_wp ?_
    refine V.seq ?_
    refine V.region ?_
    refine VL.q (.inl rfl) rfl (by decide) (yq_loadS rfl Try.underlying27 sz27_Rn rfl (by first | exact Sees.root (by assumption) | exact Sees.own (by repeat (first | exact List.mem_cons_self | exact List.mem_append_left _ (by assumption) | apply List.mem_cons_of_mem | apply List.mem_append_right)) | exact Sees.root (hR _ (by omega)) | exact Sees.own (RowsIn.mem (by repeat (first | exact RowsIn.here | exact RowsIn.last | apply RowsIn.there | apply RowsIn.thereS)) _ (by omega)) | exact Sees.own (WRowsIn.mem (by repeat (first | exact WRowsIn.here | exact WRowsIn.last | apply WRowsIn.there | apply WRowsIn.thereS)) _ (by omega))) rfl rfl rfl) ?_
    refine VL.r (.inl rfl) rfl (by decide) (yr_move rfl rfl) ?_
    refine VL.q (.inl rfl) rfl (by decide) (yq_callf rfl known10_Rn (.cons rfl (.cons rfl .nil)) (fun w hw => (c_sqE (x := (impF (SQ xss40 ws40 gs40) hf5 (xs48.map (stepOf hf5), 0) x50).1) (by first | exact Sees.root (by assumption) w hw | exact Sees.own (by repeat (first | exact List.mem_cons_self | exact List.mem_append_left _ (by assumption) | apply List.mem_cons_of_mem | apply List.mem_append_right)) w hw) (by first | exact Rws.root (by assumption) hw | exact Rws.own (by repeat (first | exact RowsIn.here | exact RowsIn.last | apply RowsIn.there | apply RowsIn.thereS)) hw) (by first | exact Sees.root (by assumption) w hw | exact Sees.own (by repeat (first | exact List.mem_cons_self | exact List.mem_append_left _ (by assumption) | apply List.mem_cons_of_mem | apply List.mem_append_right)) w hw) (by first | exact Sees.root (by assumption) w hw | exact Sees.own (by repeat (first | exact List.mem_cons_self | exact List.mem_append_left _ (by assumption) | apply List.mem_cons_of_mem | apply List.mem_append_right)) w hw) (by first | exact Sees.root (by assumption) w hw | exact Sees.own (by repeat (first | exact List.mem_cons_self | exact List.mem_append_left _ (by assumption) | apply List.mem_cons_of_mem | apply List.mem_append_right)) w hw) (by (try dsimp only); have h71 := valid_small (valid_is (dd_valid hd40)); have h72 := dd_len0 hd40; have h73 := hd40.n2; have h74 := hd40.n1; have h75 := hd40.m1; have h76 := hd40.m2; omega) (dd_fits hd40 (imp_ok hd40 hq48 hl9 (show x50 ≤ 5 by omega) (s := (impF (SQ xss40 ws40 gs40) hf5 (xs48.map (stepOf hf5), 0) x50)) rfl).2.1) (sq_yes hd40 (imp_ok hd40 hq48 hl9 (show x50 ≤ 5 by omega) (s := (impF (SQ xss40 ws40 gs40) hf5 (xs48.map (stepOf hf5), 0) x50)) rfl).2.1)))) ?_
    refine VL.r (.inl rfl) rfl (by decide) (yr_move rfl rfl) ?_
    refine VL.r (.inl rfl) rfl (by decide) (yr_extract rfl rfl rfl (by nofun)) ?_
    refine VL.r (.inl rfl) rfl (by decide) (yr_extract rfl rfl rfl (by nofun)) ?_
    refine VL.r (.inl rfl) rfl (by decide) (yr_assign rfl rfl) ?_
    refine VL.r (.inl rfl) rfl (by decide) (yr_assign rfl rfl) ?_
    refine VL.nil ?_
    refine VE.then_wp ?_
    refine V.seq ?_
    refine V.seq ?_
    refine V.region ?_
    refine VL.r (.inl rfl) rfl (by decide) (yr_move rfl rfl) ?_
    refine VL.r (.inl rfl) rfl (by decide) (yr_not rfl rfl) ?_
    refine VL.r (.inl rfl) rfl (by decide) (yr_move rfl rfl) ?_
    refine VX.split 78 _ rfl (fun h2 => ?_) (fun h2 => ?_)
    · skip
      replace h2 := bnot_t h2
      first | cases h2 | (simp at h2; done)
    · skip
      replace h2 := bnot_f h2
      refine VL.r (.inr ⟨_, _, _, rfl, rfl, rfl⟩) rfl (by decide) (yr_move rfl rfl) ?_
      refine VL.r (.inr ⟨_, _, _, rfl, rfl, rfl⟩) rfl (by decide) (yr_not rfl rfl) ?_
      refine VL.r (.inl rfl) rfl (by decide) (yr_pick_f rfl rfl rfl) ?_
      refine VL.r (.inl rfl) rfl (by decide) (yr_move rfl rfl) ?_
      refine VX.split 82 _ rfl (fun h3 => ?_) (fun h3 => ?_)
      · skip
        replace h3 := bnot_t h3
        first | cases h3 | (simp at h3; done)
      · skip
        replace h3 := bnot_f h3
        refine VL.r (.inr ⟨_, _, _, rfl, rfl, rfl⟩) rfl (by decide) (yr_move rfl rfl) ?_
        refine VL.r (.inr ⟨_, _, _, rfl, rfl, rfl⟩) rfl (by decide) (yr_not rfl rfl) ?_
        refine VL.r (.inl rfl) rfl (by decide) (yr_pick_f rfl rfl rfl) ?_
        refine VL.r (.inl rfl) rfl (by decide) (yr_move rfl rfl) ?_
        refine VX.split 86 _ rfl (fun h4 => ?_) (fun h4 => ?_)
        · skip
          replace h4 := bnot_t h4
          first | cases h4 | (simp at h4; done)
        · skip
          replace h4 := bnot_f h4
          refine VL.r (.inr ⟨_, _, _, rfl, rfl, rfl⟩) rfl (by decide) (yr_move rfl rfl) ?_
          refine VL.r (.inr ⟨_, _, _, rfl, rfl, rfl⟩) rfl (by decide) (yr_not rfl rfl) ?_
          refine VL.r (.inl rfl) rfl (by decide) (yr_pick_f rfl rfl rfl) ?_
          refine VL.r (.inl rfl) rfl (by decide) (yr_move rfl rfl) ?_
          refine VX.split 90 _ rfl (fun h5 => ?_) (fun h5 => ?_)
          · skip
            replace h5 := bnot_t h5
            first | cases h5 | (simp at h5; done)
          · skip
            replace h5 := bnot_f h5
            refine VL.r (.inr ⟨_, _, _, rfl, rfl, rfl⟩) rfl (by decide) (yr_move rfl rfl) ?_
            refine VL.r (.inr ⟨_, _, _, rfl, rfl, rfl⟩) rfl (by decide) (yr_len rfl Try.underlying25 rfl) ?_
            refine VL.r (.inr ⟨_, _, _, rfl, rfl, rfl⟩) rfl (by decide) (yr_move rfl rfl) ?_
            refine VL.r (.inr ⟨_, _, _, rfl, rfl, rfl⟩) rfl (by decide) (yr_icmp rfl (.inr (.inl rfl)) rfl rfl) ?_
            refine VL.r (.inl rfl) rfl (by decide) (yr_pick_f rfl rfl rfl) ?_
            refine VL.r (.inl rfl) rfl (by decide) (yr_move rfl rfl) ?_
            refine VX.split 96 _ rfl (fun h6 => ?_) (fun h6 => ?_)
            · skip
              replace h6 := ic_neq h6
              exfalso; have h8 := (imp_ok hd40 hq48 hl9 (show x50 ≤ 5 by omega) (s := (impF (SQ xss40 ws40 gs40) hf5 (xs48.map (stepOf hf5), 0) x50)) rfl).2.1; have h9 := dd_len0 hd40; (try dsimp only at h6); omega
            · skip
              replace h6 := ic_neq' h6
              refine VL.r (.inr ⟨_, _, _, rfl, rfl, rfl⟩) rfl (by decide) (yr_move rfl rfl) ?_
              refine VL.r (.inr ⟨_, _, _, rfl, rfl, rfl⟩) rfl (by decide) (yr_move rfl rfl) ?_
              refine VL.r (.inr ⟨_, _, _, rfl, rfl, rfl⟩) rfl (by decide) (yr_fcmp rfl (.inr (.inr (.inr (.inr (.inl rfl))))) rfl rfl) ?_
              refine VL.r (.inl rfl) rfl (by decide) (yr_pick_f rfl rfl rfl) ?_
              refine VL.r (.inl rfl) rfl (by decide) (yr_move rfl rfl) ?_
              refine VX.split 101 _ rfl (fun h7 => ?_) (fun h7 => ?_)
              · skip
                rw [(imp_ok hd40 hq48 hl9 (show x50 ≤ 5 by omega) (s := (impF (SQ xss40 ws40 gs40) hf5 (xs48.map (stepOf hf5), 0) x50)) rfl).2.2.1] at h7; cases h7
              · skip
                refine VL.r (.inr ⟨_, _, _, rfl, rfl, rfl⟩) rfl (by decide) (yr_move rfl rfl) ?_
                refine VL.r (.inr ⟨_, _, _, rfl, rfl, rfl⟩) rfl (by decide) (yr_icmp rfl (.inr (.inr (.inr (.inr (.inl rfl))))) rfl rfl) ?_
                refine VL.r (.inr ⟨_, _, _, rfl, rfl, rfl⟩) rfl (by decide) (yr_move rfl rfl) ?_
                refine VL.r (.inr ⟨_, _, _, rfl, rfl, rfl⟩) rfl (by decide) (yr_move rfl rfl) ?_
                refine VL.r (.inr ⟨_, _, _, rfl, rfl, rfl⟩) rfl (by decide) (yr_fcmp rfl (.inr (.inr (.inl rfl))) rfl rfl) ?_
                refine VL.r (.inr ⟨_, _, _, rfl, rfl, rfl⟩) rfl (by decide) (yr_bcmp rfl Try.underlying4 rfl rfl (.inr rfl)) ?_
                refine VL.r (.inl rfl) rfl (by decide) (yr_pick_f rfl rfl rfl) ?_
                refine VL.nil ?_
                refine VE.then_wp ?_
                refine V.cond rfl (fun h8 => ?_) (fun h8 => ?_)
                · skip
                  rw [(imp_ok hd40 hq48 hl9 (show x50 ≤ 5 by omega) (s := (impF (SQ xss40 ws40 gs40) hf5 (xs48.map (stepOf hf5), 0) x50)) rfl).2.2.2] at h8; exfalso; revert h8; simp [bcmp, icmp]
                · skip
                  refine V.skip ?_
                  refine VE.then_wp ?_
                  refine V.seq ?_
                  refine V.seq ?_
                  refine V.region ?_
                  refine VL.r (.inl rfl) rfl (by decide) (yr_move rfl rfl) ?_
                  refine VL.r (.inl rfl) rfl (by decide) (yr_len rfl Try.underlying25 rfl) ?_
                  refine VL.r (.inl rfl) rfl (by decide) (yr_move (u := .int .i64 0) rfl rfl) ?_
                  refine VL.nil ?_
                  refine VE.then_wp ?_
                  refine V.block ?_
                  refine V.loops (G := Nat) [(5, _), (6, _), (7, _), (8, _), (9, _), (11, _), (110, _)] (fun (i : Nat) => i ≤ (xs48.map (stepOf hf5)).length) (fun (i : Nat) => [(111, .int .i64 (i : Int))]) (fun (i : Nat) => (xs48.map (stepOf hf5)).length - i) 0 (.cons rfl (.cons rfl (.cons rfl (.cons rfl (.cons rfl (.cons rfl (.cons rfl .nil))))))) (.cons rfl .nil) ?_ ?_
                  · exact (Nat.zero_le _)
                  rintro i hi9
                  show V _ _ _ _ ([(111, .int .i64 (i : Int))] ++ [(5, _), (6, _), (7, _), (8, _), (9, _), (11, _), (110, _)]) _ _
                  refine V.seq ?_
                  refine V.region ?_
                  refine VL.r (.inl rfl) rfl (by decide) (yr_icmp rfl (.inr (.inr (.inl rfl))) rfl rfl) ?_
                  refine VL.nil ?_
                  refine VE.then_wp ?_
                  refine V.seq ?_
                  refine V.cond rfl (fun h9 => ?_) (fun h9 => ?_)
                  · skip
                    replace h9 := ic_lss h9
                    replace h9 : i < xs48.length := by rw [← List.length_map (f := stepOf hf5)]; (try dsimp only at h9); omega
                    obtain ⟨k1, hk1, ek1⟩ := steps_at hq48 h9
                    obtain ⟨k2, hk2, ek2⟩ := (imp_ok hd40 hq48 hl9 (show x50 ≤ 5 by omega) (s := (impF (SQ xss40 ws40 gs40) hf5 (xs48.map (stepOf hf5), 0) x50)) rfl).1 i (by omega)
                    have hj1 : i < (xs48.map (stepOf hf5)).length := by rw [List.length_map]; exact h9
                    have hj2 : i < (impF (SQ xss40 ws40 gs40) hf5 (xs48.map (stepOf hf5), 0) x50).1.length := by have := (imp_ok hd40 hq48 hl9 (show x50 ≤ 5 by omega) (s := (impF (SQ xss40 ws40 gs40) hf5 (xs48.map (stepOf hf5), 0) x50)) rfl).2.1; omega
                    refine V.skip ?_
                    refine VE.then_wp ?_
                    refine V.seq ?_
                    refine V.block ?_
                    refine V.seq ?_
                    refine V.region ?_
                    refine VL.r (.inl rfl) rfl (by decide) (yr_move rfl rfl) ?_
                    refine VL.r (.inl rfl) rfl (by decide) (yr_assign rfl rfl) ?_
                    refine VL.nil ?_
                    refine VE.then_wp ?_
                    refine V.seq ?_
                    refine V.region ?_
                    refine VL.r (.inl rfl) rfl (by decide) (yr_move rfl rfl) ?_
                    refine VL.r (.inl rfl) rfl (by decide) (yr_move rfl rfl) ?_
                    refine VL.q (.inl rfl) rfl (by decide) (yq_idx (k := i) rfl Try.underlying25 sz33_Rn rfl rfl (by first | exact Sees.root (by assumption) | exact Sees.own (by repeat (first | exact List.mem_cons_self | exact List.mem_append_left _ (by assumption) | apply List.mem_cons_of_mem | apply List.mem_append_right)) | exact Sees.root (hR _ (by omega)) | exact Sees.own (RowsIn.mem (by repeat (first | exact RowsIn.here | exact RowsIn.last | apply RowsIn.there | apply RowsIn.thereS)) _ (by omega)) | exact Sees.own (WRowsIn.mem (by repeat (first | exact WRowsIn.here | exact WRowsIn.last | apply WRowsIn.there | apply WRowsIn.thereS)) _ (by omega))) (by first | rfl | omega | (push_cast; rfl) | (push_cast; omega) | exact tmod_nat _ _) (by first | exact hd_length _ _ | exact fl_length _) (by (try dsimp only); have h71 := valid_small (valid_is (dd_valid hd40)); have h72 := dd_len0 hd40; have h73 := hd40.n2; have h74 := hd40.n1; have h75 := hd40.m1; have h76 := hd40.m2; omega)) ?_
                    refine VL.q (.inl rfl) rfl (by decide) (yq_loadF rfl fb33_Rn rfl (by first | exact Sees.root (by assumption) | exact Sees.own (by repeat (first | exact List.mem_cons_self | exact List.mem_append_left _ (by assumption) | apply List.mem_cons_of_mem | apply List.mem_append_right)) | exact Sees.root (hR _ (by omega)) | exact Sees.own (RowsIn.mem (by repeat (first | exact RowsIn.here | exact RowsIn.last | apply RowsIn.there | apply RowsIn.thereS)) _ (by omega)) | exact Sees.own (WRowsIn.mem (by repeat (first | exact WRowsIn.here | exact WRowsIn.last | apply WRowsIn.there | apply WRowsIn.thereS)) _ (by omega))) (by (try dsimp only); have h71 := valid_small (valid_is (dd_valid hd40)); have h72 := dd_len0 hd40; have h73 := hd40.n2; have h74 := hd40.n1; have h75 := hd40.m1; have h76 := hd40.m2; omega)) ?_
                    refine VL.r (.inl rfl) rfl (by decide) (yr_float (a := 1073741824) rfl (.inr (.inr (.inl rfl))) rfl rfl) ?_
                    refine VL.r (.inl rfl) rfl (by decide) (yr_assign rfl rfl) ?_
                    refine VL.nil ?_
                    refine VE.then_wp ?_
                    refine V.seq ?_
                    refine V.region ?_
                    refine VL.r (.inl rfl) rfl (by decide) (yr_move rfl rfl) ?_
                    refine VL.r (.inl rfl) rfl (by decide) (yr_move rfl rfl) ?_
                    refine VL.q (.inl rfl) rfl (by decide) (yq_idx (k := i) rfl Try.underlying25 sz33_Rn rfl rfl (by first | exact Sees.root (by assumption) | exact Sees.own (by repeat (first | exact List.mem_cons_self | exact List.mem_append_left _ (by assumption) | apply List.mem_cons_of_mem | apply List.mem_append_right)) | exact Sees.root (hR _ (by omega)) | exact Sees.own (RowsIn.mem (by repeat (first | exact RowsIn.here | exact RowsIn.last | apply RowsIn.there | apply RowsIn.thereS)) _ (by omega)) | exact Sees.own (WRowsIn.mem (by repeat (first | exact WRowsIn.here | exact WRowsIn.last | apply WRowsIn.there | apply WRowsIn.thereS)) _ (by omega))) (by first | rfl | omega | (push_cast; rfl) | (push_cast; omega) | exact tmod_nat _ _) (by first | exact hd_length _ _ | exact fl_length _) (by (try dsimp only); have h71 := valid_small (valid_is (dd_valid hd40)); have h72 := dd_len0 hd40; have h73 := hd40.n2; have h74 := hd40.n1; have h75 := hd40.m1; have h76 := hd40.m2; omega)) ?_
                    refine VL.q (.inl rfl) rfl (by decide) (yq_loadF rfl fb33_Rn rfl (by first | exact Sees.root (by assumption) | exact Sees.own (by repeat (first | exact List.mem_cons_self | exact List.mem_append_left _ (by assumption) | apply List.mem_cons_of_mem | apply List.mem_append_right)) | exact Sees.root (hR _ (by omega)) | exact Sees.own (RowsIn.mem (by repeat (first | exact RowsIn.here | exact RowsIn.last | apply RowsIn.there | apply RowsIn.thereS)) _ (by omega)) | exact Sees.own (WRowsIn.mem (by repeat (first | exact WRowsIn.here | exact WRowsIn.last | apply WRowsIn.there | apply WRowsIn.thereS)) _ (by omega))) (by (try dsimp only); have h71 := valid_small (valid_is (dd_valid hd40)); have h72 := dd_len0 hd40; have h73 := hd40.n2; have h74 := hd40.n1; have h75 := hd40.m1; have h76 := hd40.m2; omega)) ?_
                    refine VL.r (.inl rfl) rfl (by decide) (yr_float (a := 1073741824) rfl (.inr (.inr (.inl rfl))) rfl rfl) ?_
                    refine VL.r (.inl rfl) rfl (by decide) (yr_assign rfl rfl) ?_
                    refine VL.nil ?_
                    refine VE.then_wp ?_
                    refine V.seq ?_
                    refine V.draw [(0, 0), (1, 0), (2, 0), (3, 0), (4, 0), (5, 0), (6, 0), (7, 0), (8, 0), (9, 0), (10, 0), (11, 0), (12, 0), (13, 0), (14, 0), (15, 0), (16, 0), (17, 0), (18, 0), (19, 0), (20, 0), (21, 0), (22, 0), (23, 0), (24, 0), (25, 0)] mixed_Rn (by kernel_rfl) (by intro j o hj; simp at hj) ?_
                    refine SW.r rfl (.inl rfl) rfl (by decide) (yr_move rfl rfl) ?_
                    refine SW.r rfl (.inl rfl) rfl (by decide) (yr_move rfl rfl) ?_
                    refine SW.r rfl (.inl rfl) rfl (by decide) (yr_toInt (i := (k1 : Int) - 10) rfl Try.underlying33 Try.underlying2 rfl (by rw [ek1]; exact (hw2_int hk1).1)) ?_
                    refine SW.r rfl (.inl rfl) rfl (by decide) (yr_ofInt rfl Try.underlying2 Try.underlying33 rfl) ?_
                    refine SW.r rfl (.inl rfl) rfl (by decide) (yr_fcmp rfl (.inr (.inl rfl)) rfl rfl) ?_
                    refine SW.r rfl (.inl rfl) rfl (by decide) (yr_move rfl rfl) ?_
                    refine SW.split lax_ve 129 _ rfl (fun h10 => ?_) (fun h10 => ?_)
                    · skip
                      rw [ek1, (hw2_int hk1).2] at h10; cases h10
                    · skip
                      refine SW.r rfl (.inr ⟨_, _, _, rfl, rfl, rfl⟩) rfl (by decide) (yr_move rfl rfl) ?_
                      refine SW.r rfl (.inr ⟨_, _, _, rfl, rfl, rfl⟩) rfl (by decide) (yr_move rfl rfl) ?_
                      refine SW.r rfl (.inr ⟨_, _, _, rfl, rfl, rfl⟩) rfl (by decide) (yr_toInt (i := (k2 : Int) - 10) rfl Try.underlying33 Try.underlying2 rfl (by rw [ek2]; exact (hw2_int hk2).1)) ?_
                      refine SW.r rfl (.inr ⟨_, _, _, rfl, rfl, rfl⟩) rfl (by decide) (yr_ofInt rfl Try.underlying2 Try.underlying33 rfl) ?_
                      refine SW.r rfl (.inr ⟨_, _, _, rfl, rfl, rfl⟩) rfl (by decide) (yr_fcmp rfl (.inr (.inl rfl)) rfl rfl) ?_
                      refine SW.r rfl (.inl rfl) rfl (by decide) (yr_pick_f rfl rfl rfl) ?_
                      refine SW.r rfl (.inl rfl) rfl (by decide) (yr_move rfl rfl) ?_
                      refine SW.split lax_ve 136 _ rfl (fun h11 => ?_) (fun h11 => ?_)
                      · skip
                        rw [ek2, (hw2_int hk2).2] at h11; cases h11
                      · skip
                        refine SW.r rfl (.inr ⟨_, _, _, rfl, rfl, rfl⟩) rfl (by decide) (yr_move rfl rfl) ?_
                        refine SW.r rfl (.inr ⟨_, _, _, rfl, rfl, rfl⟩) rfl (by decide) (yr_move rfl rfl) ?_
                        refine SW.q rfl (.inr ⟨_, _, _, rfl, rfl, rfl⟩) rfl (by decide) (yq_idx (k := i) rfl Try.underlying25 sz33_Rn rfl rfl (by first | exact Sees.root (by assumption) | exact Sees.own (by repeat (first | exact List.mem_cons_self | exact List.mem_append_left _ (by assumption) | apply List.mem_cons_of_mem | apply List.mem_append_right)) | exact Sees.root (hR _ (by omega)) | exact Sees.own (RowsIn.mem (by repeat (first | exact RowsIn.here | exact RowsIn.last | apply RowsIn.there | apply RowsIn.thereS)) _ (by omega)) | exact Sees.own (WRowsIn.mem (by repeat (first | exact WRowsIn.here | exact WRowsIn.last | apply WRowsIn.there | apply WRowsIn.thereS)) _ (by omega))) (by first | rfl | omega | (push_cast; rfl) | (push_cast; omega) | exact tmod_nat _ _) (by first | exact hd_length _ _ | exact fl_length _) (by (try dsimp only); have h71 := valid_small (valid_is (dd_valid hd40)); have h72 := dd_len0 hd40; have h73 := hd40.n2; have h74 := hd40.n1; have h75 := hd40.m1; have h76 := hd40.m2; omega)) ?_
                        refine SW.q rfl (.inr ⟨_, _, _, rfl, rfl, rfl⟩) rfl (by decide) (yq_loadF rfl fb33_Rn rfl (by first | exact Sees.root (by assumption) | exact Sees.own (by repeat (first | exact List.mem_cons_self | exact List.mem_append_left _ (by assumption) | apply List.mem_cons_of_mem | apply List.mem_append_right)) | exact Sees.root (hR _ (by omega)) | exact Sees.own (RowsIn.mem (by repeat (first | exact RowsIn.here | exact RowsIn.last | apply RowsIn.there | apply RowsIn.thereS)) _ (by omega)) | exact Sees.own (WRowsIn.mem (by repeat (first | exact WRowsIn.here | exact WRowsIn.last | apply WRowsIn.there | apply WRowsIn.thereS)) _ (by omega))) (by (try dsimp only); have h71 := valid_small (valid_is (dd_valid hd40)); have h72 := dd_len0 hd40; have h73 := hd40.n2; have h74 := hd40.n1; have h75 := hd40.m1; have h76 := hd40.m2; omega)) ?_
                        refine SW.r rfl (.inr ⟨_, _, _, rfl, rfl, rfl⟩) rfl (by decide) (yr_fconv rfl Try.underlying33 Try.underlying38 (by decide) rfl (fover_up _)) ?_
                        refine SW.r rfl (.inr ⟨_, _, _, rfl, rfl, rfl⟩) rfl (by decide) (yr_move rfl rfl) ?_
                        refine SW.r rfl (.inr ⟨_, _, _, rfl, rfl, rfl⟩) rfl (by decide) (yr_move rfl rfl) ?_
                        refine SW.q rfl (.inr ⟨_, _, _, rfl, rfl, rfl⟩) rfl (by decide) (yq_idx (k := i) rfl Try.underlying25 sz33_Rn rfl rfl (by first | exact Sees.root (by assumption) | exact Sees.own (by repeat (first | exact List.mem_cons_self | exact List.mem_append_left _ (by assumption) | apply List.mem_cons_of_mem | apply List.mem_append_right)) | exact Sees.root (hR _ (by omega)) | exact Sees.own (RowsIn.mem (by repeat (first | exact RowsIn.here | exact RowsIn.last | apply RowsIn.there | apply RowsIn.thereS)) _ (by omega)) | exact Sees.own (WRowsIn.mem (by repeat (first | exact WRowsIn.here | exact WRowsIn.last | apply WRowsIn.there | apply WRowsIn.thereS)) _ (by omega))) (by first | rfl | omega | (push_cast; rfl) | (push_cast; omega) | exact tmod_nat _ _) (by first | exact hd_length _ _ | exact fl_length _) (by (try dsimp only); have h71 := valid_small (valid_is (dd_valid hd40)); have h72 := dd_len0 hd40; have h73 := hd40.n2; have h74 := hd40.n1; have h75 := hd40.m1; have h76 := hd40.m2; omega)) ?_
                        refine SW.q rfl (.inr ⟨_, _, _, rfl, rfl, rfl⟩) rfl (by decide) (yq_loadF rfl fb33_Rn rfl (by first | exact Sees.root (by assumption) | exact Sees.own (by repeat (first | exact List.mem_cons_self | exact List.mem_append_left _ (by assumption) | apply List.mem_cons_of_mem | apply List.mem_append_right)) | exact Sees.root (hR _ (by omega)) | exact Sees.own (RowsIn.mem (by repeat (first | exact RowsIn.here | exact RowsIn.last | apply RowsIn.there | apply RowsIn.thereS)) _ (by omega)) | exact Sees.own (WRowsIn.mem (by repeat (first | exact WRowsIn.here | exact WRowsIn.last | apply WRowsIn.there | apply WRowsIn.thereS)) _ (by omega))) (by (try dsimp only); have h71 := valid_small (valid_is (dd_valid hd40)); have h72 := dd_len0 hd40; have h73 := hd40.n2; have h74 := hd40.n1; have h75 := hd40.m1; have h76 := hd40.m2; omega)) ?_
                        refine SW.r rfl (.inr ⟨_, _, _, rfl, rfl, rfl⟩) rfl (by decide) (yr_fconv rfl Try.underlying33 Try.underlying38 (by decide) rfl (fover_up _)) ?_
                        refine SW.q rfl (.inr ⟨_, _, _, rfl, rfl, rfl⟩) rfl (by decide) (yq_callf rfl known11_Rn (.cons rfl (.cons rfl .nil)) (fun w hw => c_b10GapW)) ?_
                        refine SW.r rfl (.inr ⟨_, _, _, rfl, rfl, rfl⟩) rfl (by decide) (yr_fcmp (b := 4598175219545276416) rfl (.inr (.inr (.inr (.inr (.inl rfl))))) rfl rfl) ?_
                        refine SW.r rfl (.inl rfl) rfl (by decide) (yr_pick_f rfl rfl rfl) ?_
                        refine SW.done ?_
                        refine VE.then_wp ?_
                        refine V.cond rfl (fun h12 => ?_) (fun h12 => ?_)
                        · skip
                          exact absurd h12 (Bool.eq_false_iff.1 (steps_gap hq48 (by omega)))
                        · skip
                          refine V.skip ?_
                          refine VE.block_normal ?_
                          refine VE.then_wp ?_
                          refine V.region ?_
                          refine VL.r (.inl rfl) rfl (by decide) (yr_int rfl rfl rfl (.inl ⟨rfl, wrap_in (by (try dsimp only); have h71 := valid_small (valid_is (dd_valid hd40)); have h72 := dd_len0 hd40; have h73 := hd40.n2; have h74 := hd40.n1; have h75 := hd40.m1; have h76 := hd40.m2; omega)⟩)) ?_
                          refine VL.r (.inl rfl) rfl (by decide) (yr_move rfl rfl) ?_
                          refine VL.nil ?_
                          refine VE.round (i + 1) ?_ ?_ ?_ ?_ ?_
                          · exact (.cons rfl .nil)
                          · exact (.cons rfl (.cons rfl (.cons rfl (.cons rfl (.cons rfl (.cons rfl (.cons rfl .nil)))))))
                          · exact (fun w hw => hw)
                          · (try dsimp only); omega
                          · (try dsimp only); omega
                  · skip
                    replace h9 := ic_lss' h9
                    refine V.exit ?_
                    refine VE.then_exit ?_
                    refine VE.then_exit ?_
                    refine VE.block_here ?_
                    refine VE.then_wp ?_
                    refine V.seq ?_
                    refine V.draw [(0, 0), (1, 0), (3, 0), (2, 1), (4, 1), (5, 0), (6, 0), (7, 0), (8, 0), (9, 0)] mixed_Rn (by kernel_rfl) (by intro j o hj; simp at hj) ?_
                    refine SW.q rfl (.inl rfl) rfl (by decide) (yq_loadS rfl Try.underlying27 sz27_Rn rfl (by first | exact Sees.root (by assumption) | exact Sees.own (by repeat (first | exact List.mem_cons_self | exact List.mem_append_left _ (by assumption) | apply List.mem_cons_of_mem | apply List.mem_append_right)) | exact Sees.root (hR _ (by omega)) | exact Sees.own (RowsIn.mem (by repeat (first | exact RowsIn.here | exact RowsIn.last | apply RowsIn.there | apply RowsIn.thereS)) _ (by omega)) | exact Sees.own (WRowsIn.mem (by repeat (first | exact WRowsIn.here | exact WRowsIn.last | apply WRowsIn.there | apply WRowsIn.thereS)) _ (by omega))) rfl rfl rfl) ?_
                    refine SW.r rfl (.inl rfl) rfl (by decide) (yr_move rfl rfl) ?_
                    refine SW.r rfl (.inl rfl) rfl (by decide) (yr_move rfl rfl) ?_
                    refine SW.new1 rfl (.inl rfl) rfl (by decide) (yn_makeSlicez 1 rfl rfl Try.underlying25 elt33_Rn rfl rfl rfl (by (try dsimp only); have h71 := valid_small (valid_is (dd_valid hd40)); have h72 := dd_len0 hd40; have h73 := hd40.n2; have h74 := hd40.n1; have h75 := hd40.m1; have h76 := hd40.m2; omega) (by (try dsimp only); have h71 := valid_small (valid_is (dd_valid hd40)); have h72 := dd_len0 hd40; have h73 := hd40.n2; have h74 := hd40.n1; have h75 := hd40.m1; have h76 := hd40.m2; omega)) ?_
                    intro b154
                    refine SW.new1 rfl (.inl rfl) rfl (by decide) (yn_callf rfl known12_Rn (.cons rfl (.cons rfl (.cons rfl (.cons rfl .nil)))) (fun w hw => (c_limZ (m := (xss40.getD 0 []).length) (most := L15) (ys := (limR xss40 ws40 gs40 L15 (List.replicate (xss40.getD 0 []).length 0) x50)) (by first | exact Sees.root (by assumption) w hw | exact Sees.own (by repeat (first | exact List.mem_cons_self | exact List.mem_append_left _ (by assumption) | apply List.mem_cons_of_mem | apply List.mem_append_right)) w hw) (by first | exact Rws.root (by assumption) hw | exact Rws.own (by repeat (first | exact RowsIn.here | exact RowsIn.last | apply RowsIn.there | apply RowsIn.thereS)) hw) (by first | exact Sees.root (by assumption) w hw | exact Sees.own (by repeat (first | exact List.mem_cons_self | exact List.mem_append_left _ (by assumption) | apply List.mem_cons_of_mem | apply List.mem_append_right)) w hw) (by first | exact Sees.root (by assumption) w hw | exact Sees.own (by repeat (first | exact List.mem_cons_self | exact List.mem_append_left _ (by assumption) | apply List.mem_cons_of_mem | apply List.mem_append_right)) w hw) (by first | exact Sees.root (by assumption) w hw | exact Sees.own (by repeat (first | exact List.mem_cons_self | exact List.mem_append_left _ (by assumption) | apply List.mem_cons_of_mem | apply List.mem_append_right)) w hw) (by (try dsimp only); have h71 := valid_small (valid_is (dd_valid hd40)); have h72 := dd_len0 hd40; have h73 := hd40.n2; have h74 := hd40.n1; have h75 := hd40.m1; have h76 := hd40.m2; omega) (lim_yes hd40 (show x50 ≤ 5 by omega)).1 (lim_yes hd40 (show x50 ≤ 5 by omega)).2))) ?_
                    rintro ⟨a156, c156⟩
                    refine SW.r rfl (.inl rfl) rfl (by decide) (yr_move rfl rfl) ?_
                    refine SW.r rfl (.inl rfl) rfl (by decide) (yr_extract rfl rfl rfl (by nofun)) ?_
                    refine SW.r rfl (.inl rfl) rfl (by decide) (yr_extract rfl rfl rfl (by nofun)) ?_
                    refine SW.r rfl (.inl rfl) rfl (by decide) (yr_assign rfl rfl) ?_
                    refine SW.r rfl (.inl rfl) rfl (by decide) (yr_assign rfl rfl) ?_
                    refine SW.done ?_
                    refine VE.then_wp ?_
                    refine V.seq ?_
                    refine V.draw [(0, 0), (1, 0), (2, 1), (3, 0), (4, 0), (5, 0), (6, 0), (7, 0), (8, 0)] mixed_Rn (by kernel_rfl) (by intro j o hj; simp at hj) ?_
                    refine SW.q rfl (.inl rfl) rfl (by decide) (yq_loadS rfl Try.underlying27 sz27_Rn rfl (by first | exact Sees.root (by assumption) | exact Sees.own (by repeat (first | exact List.mem_cons_self | exact List.mem_append_left _ (by assumption) | apply List.mem_cons_of_mem | apply List.mem_append_right)) | exact Sees.root (hR _ (by omega)) | exact Sees.own (RowsIn.mem (by repeat (first | exact RowsIn.here | exact RowsIn.last | apply RowsIn.there | apply RowsIn.thereS)) _ (by omega)) | exact Sees.own (WRowsIn.mem (by repeat (first | exact WRowsIn.here | exact WRowsIn.last | apply WRowsIn.there | apply WRowsIn.thereS)) _ (by omega))) rfl rfl rfl) ?_
                    refine SW.r rfl (.inl rfl) rfl (by decide) (yr_move rfl rfl) ?_
                    refine SW.new1 rfl (.inl rfl) rfl (by decide) (yn_makeSlicez 1 rfl rfl Try.underlying25 elt33_Rn rfl rfl rfl (by (try dsimp only); have h71 := valid_small (valid_is (dd_valid hd40)); have h72 := dd_len0 hd40; have h73 := hd40.n2; have h74 := hd40.n1; have h75 := hd40.m1; have h76 := hd40.m2; omega) (by (try dsimp only); have h71 := valid_small (valid_is (dd_valid hd40)); have h72 := dd_len0 hd40; have h73 := hd40.n2; have h74 := hd40.n1; have h75 := hd40.m1; have h76 := hd40.m2; omega)) ?_
                    intro b162
                    refine SW.q rfl (.inl rfl) rfl (by decide) (yq_callf rfl known10_Rn (.cons rfl (.cons rfl .nil)) (fun w hw => (c_sqZ (m := (xss40.getD 0 []).length) (by first | exact Sees.root (by assumption) w hw | exact Sees.own (by repeat (first | exact List.mem_cons_self | exact List.mem_append_left _ (by assumption) | apply List.mem_cons_of_mem | apply List.mem_append_right)) w hw) (by first | exact Rws.root (by assumption) hw | exact Rws.own (by repeat (first | exact RowsIn.here | exact RowsIn.last | apply RowsIn.there | apply RowsIn.thereS)) hw) (by first | exact Sees.root (by assumption) w hw | exact Sees.own (by repeat (first | exact List.mem_cons_self | exact List.mem_append_left _ (by assumption) | apply List.mem_cons_of_mem | apply List.mem_append_right)) w hw) (by first | exact Sees.root (by assumption) w hw | exact Sees.own (by repeat (first | exact List.mem_cons_self | exact List.mem_append_left _ (by assumption) | apply List.mem_cons_of_mem | apply List.mem_append_right)) w hw) (by first | exact Sees.root (by assumption) w hw | exact Sees.own (by repeat (first | exact List.mem_cons_self | exact List.mem_append_left _ (by assumption) | apply List.mem_cons_of_mem | apply List.mem_append_right)) w hw) (by (try dsimp only); have h71 := valid_small (valid_is (dd_valid hd40)); have h72 := dd_len0 hd40; have h73 := hd40.n2; have h74 := hd40.n1; have h75 := hd40.m1; have h76 := hd40.m2; omega) (sq_zero hd40) (squareD_yes (sq_zero hd40))))) ?_
                    refine SW.r rfl (.inl rfl) rfl (by decide) (yr_move rfl rfl) ?_
                    refine SW.r rfl (.inl rfl) rfl (by decide) (yr_extract rfl rfl rfl (by nofun)) ?_
                    refine SW.r rfl (.inl rfl) rfl (by decide) (yr_extract rfl rfl rfl (by nofun)) ?_
                    refine SW.r rfl (.inl rfl) rfl (by decide) (yr_assign rfl rfl) ?_
                    refine SW.r rfl (.inl rfl) rfl (by decide) (yr_assign rfl rfl) ?_
                    refine SW.done ?_
                    refine VE.then_wp ?_
                    refine V.seq ?_
                    refine V.region ?_
                    refine VL.q (.inl rfl) rfl (by decide) (yq_loadS rfl Try.underlying27 sz27_Rn rfl (by first | exact Sees.root (by assumption) | exact Sees.own (by repeat (first | exact List.mem_cons_self | exact List.mem_append_left _ (by assumption) | apply List.mem_cons_of_mem | apply List.mem_append_right)) | exact Sees.root (hR _ (by omega)) | exact Sees.own (RowsIn.mem (by repeat (first | exact RowsIn.here | exact RowsIn.last | apply RowsIn.there | apply RowsIn.thereS)) _ (by omega)) | exact Sees.own (WRowsIn.mem (by repeat (first | exact WRowsIn.here | exact WRowsIn.last | apply WRowsIn.there | apply WRowsIn.thereS)) _ (by omega))) rfl rfl rfl) ?_
                    refine VL.r (.inl rfl) rfl (by decide) (yr_move rfl rfl) ?_
                    refine VL.q (.inl rfl) rfl (by decide) (yq_callf rfl known10_Rn (.cons rfl (.cons rfl .nil)) (fun w hw => (c_sqE (x := (limR xss40 ws40 gs40 L15 (List.replicate (xss40.getD 0 []).length 0) x50)) (by first | exact Sees.root (by assumption) w hw | exact Sees.own (by repeat (first | exact List.mem_cons_self | exact List.mem_append_left _ (by assumption) | apply List.mem_cons_of_mem | apply List.mem_append_right)) w hw) (by first | exact Rws.root (by assumption) hw | exact Rws.own (by repeat (first | exact RowsIn.here | exact RowsIn.last | apply RowsIn.there | apply RowsIn.thereS)) hw) (by first | exact Sees.root (by assumption) w hw | exact Sees.own (by repeat (first | exact List.mem_cons_self | exact List.mem_append_left _ (by assumption) | apply List.mem_cons_of_mem | apply List.mem_append_right)) w hw) (by first | exact Sees.root (by assumption) w hw | exact Sees.own (by repeat (first | exact List.mem_cons_self | exact List.mem_append_left _ (by assumption) | apply List.mem_cons_of_mem | apply List.mem_append_right)) w hw) (by first | exact Sees.root (by assumption) w hw | exact Sees.own (by repeat (first | exact List.mem_cons_self | exact List.mem_append_left _ (by assumption) | apply List.mem_cons_of_mem | apply List.mem_append_right)) w hw) (by (try dsimp only); have h71 := valid_small (valid_is (dd_valid hd40)); have h72 := dd_len0 hd40; have h73 := hd40.n2; have h74 := hd40.n1; have h75 := hd40.m1; have h76 := hd40.m2; omega) (fits_yes (dd_valid hd40) (lim_length _)) (squareD_yes (fits_yes (dd_valid hd40) (lim_length _)))))) ?_
                    refine VL.r (.inl rfl) rfl (by decide) (yr_move rfl rfl) ?_
                    refine VL.r (.inl rfl) rfl (by decide) (yr_extract rfl rfl rfl (by nofun)) ?_
                    refine VL.r (.inl rfl) rfl (by decide) (yr_extract rfl rfl rfl (by nofun)) ?_
                    refine VL.r (.inl rfl) rfl (by decide) (yr_assign rfl rfl) ?_
                    refine VL.r (.inl rfl) rfl (by decide) (yr_assign rfl rfl) ?_
                    refine VL.nil ?_
                    refine VE.then_wp ?_
                    refine V.seq ?_
                    refine V.region ?_
                    refine VL.q (.inl rfl) rfl (by decide) (yq_loadS rfl Try.underlying27 sz27_Rn rfl (by first | exact Sees.root (by assumption) | exact Sees.own (by repeat (first | exact List.mem_cons_self | exact List.mem_append_left _ (by assumption) | apply List.mem_cons_of_mem | apply List.mem_append_right)) | exact Sees.root (hR _ (by omega)) | exact Sees.own (RowsIn.mem (by repeat (first | exact RowsIn.here | exact RowsIn.last | apply RowsIn.there | apply RowsIn.thereS)) _ (by omega)) | exact Sees.own (WRowsIn.mem (by repeat (first | exact WRowsIn.here | exact WRowsIn.last | apply WRowsIn.there | apply WRowsIn.thereS)) _ (by omega))) rfl rfl rfl) ?_
                    refine VL.r (.inl rfl) rfl (by decide) (yr_move rfl rfl) ?_
                    refine VL.new1 (.inl rfl) rfl (by decide) (yn_callf rfl known13_Rn (.cons rfl (.cons rfl (.cons rfl .nil))) (fun w hw => (c_sgnE (ys := (sgnR (SQ xss40 ws40 gs40) (sgn0 xss40 1061158912) x50)) (by first | exact Sees.root (by assumption) w hw | exact Sees.own (by repeat (first | exact List.mem_cons_self | exact List.mem_append_left _ (by assumption) | apply List.mem_cons_of_mem | apply List.mem_append_right)) w hw) (by first | exact Rws.root (by assumption) hw | exact Rws.own (by repeat (first | exact RowsIn.here | exact RowsIn.last | apply RowsIn.there | apply RowsIn.thereS)) hw) (by first | exact Sees.root (by assumption) w hw | exact Sees.own (by repeat (first | exact List.mem_cons_self | exact List.mem_append_left _ (by assumption) | apply List.mem_cons_of_mem | apply List.mem_append_right)) w hw) (by first | exact Sees.root (by assumption) w hw | exact Sees.own (by repeat (first | exact List.mem_cons_self | exact List.mem_append_left _ (by assumption) | apply List.mem_cons_of_mem | apply List.mem_append_right)) w hw) (by (try dsimp only); have h71 := valid_small (valid_is (dd_valid hd40)); have h72 := dd_len0 hd40; have h73 := hd40.n2; have h74 := hd40.n1; have h75 := hd40.m1; have h76 := hd40.m2; omega) (sgn_yes hd40 (show x50 ≤ 5 by omega)).1 (sgn_yes hd40 (show x50 ≤ 5 by omega)).2))) ?_
                    rintro ⟨a175, c175⟩
                    refine VL.r (.inl rfl) rfl (by decide) (yr_move rfl rfl) ?_
                    refine VL.r (.inl rfl) rfl (by decide) (yr_extract rfl rfl rfl (by nofun)) ?_
                    refine VL.r (.inl rfl) rfl (by decide) (yr_extract rfl rfl rfl (by nofun)) ?_
                    refine VL.r (.inl rfl) rfl (by decide) (yr_assign rfl rfl) ?_
                    refine VL.r (.inl rfl) rfl (by decide) (yr_assign rfl rfl) ?_
                    refine VL.nil ?_
                    refine VE.then_wp ?_
                    refine V.seq ?_
                    refine V.seq ?_
                    refine V.region ?_
                    refine VL.r (.inl rfl) rfl (by decide) (yr_move rfl rfl) ?_
                    refine VL.r (.inl rfl) rfl (by decide) (yr_not rfl rfl) ?_
                    refine VL.r (.inl rfl) rfl (by decide) (yr_move rfl rfl) ?_
                    refine VX.split 180 _ rfl (fun h13 => ?_) (fun h13 => ?_)
                    · skip
                      replace h13 := bnot_t h13
                      first | cases h13 | (simp at h13; done)
                    · skip
                      replace h13 := bnot_f h13
                      refine VL.r (.inr ⟨_, _, _, rfl, rfl, rfl⟩) rfl (by decide) (yr_move rfl rfl) ?_
                      refine VL.r (.inr ⟨_, _, _, rfl, rfl, rfl⟩) rfl (by decide) (yr_not rfl rfl) ?_
                      refine VL.r (.inl rfl) rfl (by decide) (yr_pick_f rfl rfl rfl) ?_
                      refine VL.r (.inl rfl) rfl (by decide) (yr_move rfl rfl) ?_
                      refine VX.split 184 _ rfl (fun h14 => ?_) (fun h14 => ?_)
                      · skip
                        replace h14 := bnot_t h14
                        first | cases h14 | (simp at h14; done)
                      · skip
                        replace h14 := bnot_f h14
                        refine VL.r (.inr ⟨_, _, _, rfl, rfl, rfl⟩) rfl (by decide) (yr_move rfl rfl) ?_
                        refine VL.r (.inr ⟨_, _, _, rfl, rfl, rfl⟩) rfl (by decide) (yr_not rfl rfl) ?_
                        refine VL.r (.inl rfl) rfl (by decide) (yr_pick_f rfl rfl rfl) ?_
                        refine VL.r (.inl rfl) rfl (by decide) (yr_move rfl rfl) ?_
                        refine VX.split 188 _ rfl (fun h15 => ?_) (fun h15 => ?_)
                        · skip
                          replace h15 := bnot_t h15
                          first | cases h15 | (simp at h15; done)
                        · skip
                          replace h15 := bnot_f h15
                          refine VL.r (.inr ⟨_, _, _, rfl, rfl, rfl⟩) rfl (by decide) (yr_move rfl rfl) ?_
                          refine VL.r (.inr ⟨_, _, _, rfl, rfl, rfl⟩) rfl (by decide) (yr_not rfl rfl) ?_
                          refine VL.r (.inl rfl) rfl (by decide) (yr_pick_f rfl rfl rfl) ?_
                          refine VL.r (.inl rfl) rfl (by decide) (yr_move rfl rfl) ?_
                          refine VX.split 192 _ rfl (fun h16 => ?_) (fun h16 => ?_)
                          · skip
                            replace h16 := bnot_t h16
                            first | cases h16 | (simp at h16; done)
                          · skip
                            replace h16 := bnot_f h16
                            refine VL.r (.inr ⟨_, _, _, rfl, rfl, rfl⟩) rfl (by decide) (yr_move rfl rfl) ?_
                            refine VL.r (.inr ⟨_, _, _, rfl, rfl, rfl⟩) rfl (by decide) (yr_len rfl Try.underlying25 rfl) ?_
                            refine VL.r (.inr ⟨_, _, _, rfl, rfl, rfl⟩) rfl (by decide) (yr_move rfl rfl) ?_
                            refine VL.r (.inr ⟨_, _, _, rfl, rfl, rfl⟩) rfl (by decide) (yr_icmp rfl (.inr (.inl rfl)) rfl rfl) ?_
                            refine VL.r (.inl rfl) rfl (by decide) (yr_pick_f rfl rfl rfl) ?_
                            refine VL.r (.inl rfl) rfl (by decide) (yr_move rfl rfl) ?_
                            refine VX.split 198 _ rfl (fun h17 => ?_) (fun h17 => ?_)
                            · skip
                              replace h17 := ic_neq h17
                              exfalso; have h8 := sgn_length (xss := xss40) (SQ xss40 ws40 gs40) x50; (try dsimp only at h17); omega
                            · skip
                              replace h17 := ic_neq' h17
                              refine VL.r (.inr ⟨_, _, _, rfl, rfl, rfl⟩) rfl (by decide) (yr_move rfl rfl) ?_
                              refine VL.r (.inr ⟨_, _, _, rfl, rfl, rfl⟩) rfl (by decide) (yr_move rfl rfl) ?_
                              refine VL.r (.inr ⟨_, _, _, rfl, rfl, rfl⟩) rfl (by decide) (yr_float (b := 1008981770) rfl (.inl rfl) rfl rfl) ?_
                              refine VL.r (.inr ⟨_, _, _, rfl, rfl, rfl⟩) rfl (by decide) (yr_fcmp rfl (.inr (.inr (.inr (.inr (.inl rfl))))) rfl rfl) ?_
                              refine VL.r (.inl rfl) rfl (by decide) (yr_pick_f rfl rfl rfl) ?_
                              refine VL.nil ?_
                              refine VE.then_wp ?_
                              refine V.cond rfl (fun h18 => ?_) (fun h18 => ?_)
                              · skip
                                exact absurd h18 (Bool.eq_false_iff.1 (lim_left hd40 (show x50 ≤ 5 by omega)))
                              · skip
                                refine V.skip ?_
                                refine VE.then_wp ?_
                                refine V.seq ?_
                                refine V.seq ?_
                                refine V.region ?_
                                refine VL.r (.inl rfl) rfl (by decide) (yr_move rfl rfl) ?_
                                refine VL.r (.inl rfl) rfl (by decide) (yr_len rfl Try.underlying25 rfl) ?_
                                refine VL.r (.inl rfl) rfl (by decide) (yr_move (u := .int .i64 0) rfl rfl) ?_
                                refine VL.nil ?_
                                refine VE.then_wp ?_
                                refine V.block ?_
                                refine V.loops (G := Nat) [(5, _), (7, _), (21, _), (27, _), (205, _)] (fun (i : Nat) => i ≤ (limR xss40 ws40 gs40 L15 (List.replicate (xss40.getD 0 []).length 0) x50).length) (fun (i : Nat) => [(206, .int .i64 (i : Int))]) (fun (i : Nat) => (limR xss40 ws40 gs40 L15 (List.replicate (xss40.getD 0 []).length 0) x50).length - i) 0 (.cons rfl (.cons rfl (.cons rfl (.cons rfl (.cons rfl .nil))))) (.cons rfl .nil) ?_ ?_
                                · exact (Nat.zero_le _)
                                rintro i hi9
                                show V _ _ _ _ ([(206, .int .i64 (i : Int))] ++ [(5, _), (7, _), (21, _), (27, _), (205, _)]) _ _
                                refine V.seq ?_
                                refine V.region ?_
                                refine VL.r (.inl rfl) rfl (by decide) (yr_icmp rfl (.inr (.inr (.inl rfl))) rfl rfl) ?_
                                refine VL.nil ?_
                                refine VE.then_wp ?_
                                refine V.seq ?_
                                refine V.cond rfl (fun h19 => ?_) (fun h19 => ?_)
                                · skip
                                  replace h19 := ic_lss h19
                                  replace h19 : i < (limR xss40 ws40 gs40 L15 (List.replicate (xss40.getD 0 []).length 0) x50).length := by (try dsimp only at h19); omega
                                  have hj1 := h19
                                  rw [lim_length] at hj1
                                  have hj2 : i < (sgnR (SQ xss40 ws40 gs40) (sgn0 xss40 1061158912) x50).length := by rw [sgn_length]; exact hj1
                                  refine V.skip ?_
                                  refine VE.then_wp ?_
                                  refine V.seq ?_
                                  refine V.block ?_
                                  refine V.seq ?_
                                  refine V.region ?_
                                  refine VL.r (.inl rfl) rfl (by decide) (yr_move rfl rfl) ?_
                                  refine VL.r (.inl rfl) rfl (by decide) (yr_assign rfl rfl) ?_
                                  refine VL.nil ?_
                                  refine VE.then_wp ?_
                                  refine V.seq ?_
                                  refine V.region ?_
                                  refine VL.r (.inl rfl) rfl (by decide) (yr_move rfl rfl) ?_
                                  refine VL.r (.inl rfl) rfl (by decide) (yr_move rfl rfl) ?_
                                  refine VL.q (.inl rfl) rfl (by decide) (yq_idx (k := i) rfl Try.underlying25 sz33_Rn rfl rfl (by first | exact Sees.root (by assumption) | exact Sees.own (by repeat (first | exact List.mem_cons_self | exact List.mem_append_left _ (by assumption) | apply List.mem_cons_of_mem | apply List.mem_append_right)) | exact Sees.root (hR _ (by omega)) | exact Sees.own (RowsIn.mem (by repeat (first | exact RowsIn.here | exact RowsIn.last | apply RowsIn.there | apply RowsIn.thereS)) _ (by omega)) | exact Sees.own (WRowsIn.mem (by repeat (first | exact WRowsIn.here | exact WRowsIn.last | apply WRowsIn.there | apply WRowsIn.thereS)) _ (by omega))) (by first | rfl | omega | (push_cast; rfl) | (push_cast; omega) | exact tmod_nat _ _) (by first | exact hd_length _ _ | exact fl_length _) (by (try dsimp only); have h71 := valid_small (valid_is (dd_valid hd40)); have h72 := dd_len0 hd40; have h73 := hd40.n2; have h74 := hd40.n1; have h75 := hd40.m1; have h76 := hd40.m2; omega)) ?_
                                  refine VL.q (.inl rfl) rfl (by decide) (yq_loadF rfl fb33_Rn rfl (by first | exact Sees.root (by assumption) | exact Sees.own (by repeat (first | exact List.mem_cons_self | exact List.mem_append_left _ (by assumption) | apply List.mem_cons_of_mem | apply List.mem_append_right)) | exact Sees.root (hR _ (by omega)) | exact Sees.own (RowsIn.mem (by repeat (first | exact RowsIn.here | exact RowsIn.last | apply RowsIn.there | apply RowsIn.thereS)) _ (by omega)) | exact Sees.own (WRowsIn.mem (by repeat (first | exact WRowsIn.here | exact WRowsIn.last | apply WRowsIn.there | apply WRowsIn.thereS)) _ (by omega))) (by (try dsimp only); have h71 := valid_small (valid_is (dd_valid hd40)); have h72 := dd_len0 hd40; have h73 := hd40.n2; have h74 := hd40.n1; have h75 := hd40.m1; have h76 := hd40.m2; omega)) ?_
                                  refine VL.r (.inl rfl) rfl (by decide) (yr_fcmp (b := 1069547520) rfl (.inr (.inr (.inr (.inr (.inl rfl))))) rfl rfl) ?_
                                  refine VL.r (.inl rfl) rfl (by decide) (yr_move rfl rfl) ?_
                                  refine VX.split 214 _ rfl (fun h20 => ?_) (fun h20 => ?_)
                                  · skip
                                    exact absurd h20 (Bool.eq_false_iff.1 (lim_cmp (lim_in hd40 _) (by omega)).1)
                                  · skip
                                    refine VL.r (.inr ⟨_, _, _, rfl, rfl, rfl⟩) rfl (by decide) (yr_move rfl rfl) ?_
                                    refine VL.r (.inr ⟨_, _, _, rfl, rfl, rfl⟩) rfl (by decide) (yr_move rfl rfl) ?_
                                    refine VL.q (.inr ⟨_, _, _, rfl, rfl, rfl⟩) rfl (by decide) (yq_idx (k := i) rfl Try.underlying25 sz33_Rn rfl rfl (by first | exact Sees.root (by assumption) | exact Sees.own (by repeat (first | exact List.mem_cons_self | exact List.mem_append_left _ (by assumption) | apply List.mem_cons_of_mem | apply List.mem_append_right)) | exact Sees.root (hR _ (by omega)) | exact Sees.own (RowsIn.mem (by repeat (first | exact RowsIn.here | exact RowsIn.last | apply RowsIn.there | apply RowsIn.thereS)) _ (by omega)) | exact Sees.own (WRowsIn.mem (by repeat (first | exact WRowsIn.here | exact WRowsIn.last | apply WRowsIn.there | apply WRowsIn.thereS)) _ (by omega))) (by first | rfl | omega | (push_cast; rfl) | (push_cast; omega) | exact tmod_nat _ _) (by first | exact hd_length _ _ | exact fl_length _) (by (try dsimp only); have h71 := valid_small (valid_is (dd_valid hd40)); have h72 := dd_len0 hd40; have h73 := hd40.n2; have h74 := hd40.n1; have h75 := hd40.m1; have h76 := hd40.m2; omega)) ?_
                                    refine VL.q (.inr ⟨_, _, _, rfl, rfl, rfl⟩) rfl (by decide) (yq_loadF rfl fb33_Rn rfl (by first | exact Sees.root (by assumption) | exact Sees.own (by repeat (first | exact List.mem_cons_self | exact List.mem_append_left _ (by assumption) | apply List.mem_cons_of_mem | apply List.mem_append_right)) | exact Sees.root (hR _ (by omega)) | exact Sees.own (RowsIn.mem (by repeat (first | exact RowsIn.here | exact RowsIn.last | apply RowsIn.there | apply RowsIn.thereS)) _ (by omega)) | exact Sees.own (WRowsIn.mem (by repeat (first | exact WRowsIn.here | exact WRowsIn.last | apply WRowsIn.there | apply WRowsIn.thereS)) _ (by omega))) (by (try dsimp only); have h71 := valid_small (valid_is (dd_valid hd40)); have h72 := dd_len0 hd40; have h73 := hd40.n2; have h74 := hd40.n1; have h75 := hd40.m1; have h76 := hd40.m2; omega)) ?_
                                    refine VL.r (.inr ⟨_, _, _, rfl, rfl, rfl⟩) rfl (by decide) (yr_fcmp (b := 3217031168) rfl (.inr (.inr (.inl rfl))) rfl rfl) ?_
                                    refine VL.r (.inl rfl) rfl (by decide) (yr_pick_f rfl rfl rfl) ?_
                                    refine VL.r (.inl rfl) rfl (by decide) (yr_move rfl rfl) ?_
                                    refine VX.split 221 _ rfl (fun h21 => ?_) (fun h21 => ?_)
                                    · skip
                                      exact absurd h21 (Bool.eq_false_iff.1 (lim_cmp (lim_in hd40 _) (by omega)).2)
                                    · skip
                                      refine VL.r (.inr ⟨_, _, _, rfl, rfl, rfl⟩) rfl (by decide) (yr_move rfl rfl) ?_
                                      refine VL.r (.inr ⟨_, _, _, rfl, rfl, rfl⟩) rfl (by decide) (yr_move rfl rfl) ?_
                                      refine VL.q (.inr ⟨_, _, _, rfl, rfl, rfl⟩) rfl (by decide) (yq_idx (k := i) rfl Try.underlying25 sz33_Rn rfl rfl (by first | exact Sees.root (by assumption) | exact Sees.own (by repeat (first | exact List.mem_cons_self | exact List.mem_append_left _ (by assumption) | apply List.mem_cons_of_mem | apply List.mem_append_right)) | exact Sees.root (hR _ (by omega)) | exact Sees.own (RowsIn.mem (by repeat (first | exact RowsIn.here | exact RowsIn.last | apply RowsIn.there | apply RowsIn.thereS)) _ (by omega)) | exact Sees.own (WRowsIn.mem (by repeat (first | exact WRowsIn.here | exact WRowsIn.last | apply WRowsIn.there | apply WRowsIn.thereS)) _ (by omega))) (by first | rfl | omega | (push_cast; rfl) | (push_cast; omega) | exact tmod_nat _ _) (by first | exact hd_length _ _ | exact fl_length _) (by (try dsimp only); have h71 := valid_small (valid_is (dd_valid hd40)); have h72 := dd_len0 hd40; have h73 := hd40.n2; have h74 := hd40.n1; have h75 := hd40.m1; have h76 := hd40.m2; omega)) ?_
                                      refine VL.q (.inr ⟨_, _, _, rfl, rfl, rfl⟩) rfl (by decide) (yq_loadF rfl fb33_Rn rfl (by first | exact Sees.root (by assumption) | exact Sees.own (by repeat (first | exact List.mem_cons_self | exact List.mem_append_left _ (by assumption) | apply List.mem_cons_of_mem | apply List.mem_append_right)) | exact Sees.root (hR _ (by omega)) | exact Sees.own (RowsIn.mem (by repeat (first | exact RowsIn.here | exact RowsIn.last | apply RowsIn.there | apply RowsIn.thereS)) _ (by omega)) | exact Sees.own (WRowsIn.mem (by repeat (first | exact WRowsIn.here | exact WRowsIn.last | apply WRowsIn.there | apply WRowsIn.thereS)) _ (by omega))) (by (try dsimp only); have h71 := valid_small (valid_is (dd_valid hd40)); have h72 := dd_len0 hd40; have h73 := hd40.n2; have h74 := hd40.n1; have h75 := hd40.m1; have h76 := hd40.m2; omega)) ?_
                                      refine VL.r (.inr ⟨_, _, _, rfl, rfl, rfl⟩) rfl (by decide) (yr_fcmp (b := 1061158912) rfl (.inr (.inl rfl)) rfl rfl) ?_
                                      refine VL.r (.inr ⟨_, _, _, rfl, rfl, rfl⟩) rfl (by decide) (yr_move rfl rfl) ?_
                                      refine VX.split 227 _ rfl (fun h22 => ?_) (fun h22 => ?_)
                                      · skip
                                        have hs9 := h22
                                        refine VL.r (.inr ⟨_, _, _, rfl, rfl, rfl⟩) rfl (by decide) (yr_move rfl rfl) ?_
                                        refine VL.r (.inr ⟨_, _, _, rfl, rfl, rfl⟩) rfl (by decide) (yr_move rfl rfl) ?_
                                        refine VL.q (.inr ⟨_, _, _, rfl, rfl, rfl⟩) rfl (by decide) (yq_idx (k := i) rfl Try.underlying25 sz33_Rn rfl rfl (by first | exact Sees.root (by assumption) | exact Sees.own (by repeat (first | exact List.mem_cons_self | exact List.mem_append_left _ (by assumption) | apply List.mem_cons_of_mem | apply List.mem_append_right)) | exact Sees.root (hR _ (by omega)) | exact Sees.own (RowsIn.mem (by repeat (first | exact RowsIn.here | exact RowsIn.last | apply RowsIn.there | apply RowsIn.thereS)) _ (by omega)) | exact Sees.own (WRowsIn.mem (by repeat (first | exact WRowsIn.here | exact WRowsIn.last | apply WRowsIn.there | apply WRowsIn.thereS)) _ (by omega))) (by first | rfl | omega | (push_cast; rfl) | (push_cast; omega) | exact tmod_nat _ _) (by first | exact hd_length _ _ | exact fl_length _) (by (try dsimp only); have h71 := valid_small (valid_is (dd_valid hd40)); have h72 := dd_len0 hd40; have h73 := hd40.n2; have h74 := hd40.n1; have h75 := hd40.m1; have h76 := hd40.m2; omega)) ?_
                                        refine VL.q (.inr ⟨_, _, _, rfl, rfl, rfl⟩) rfl (by decide) (yq_loadF rfl fb33_Rn rfl (by first | exact Sees.root (by assumption) | exact Sees.own (by repeat (first | exact List.mem_cons_self | exact List.mem_append_left _ (by assumption) | apply List.mem_cons_of_mem | apply List.mem_append_right)) | exact Sees.root (hR _ (by omega)) | exact Sees.own (RowsIn.mem (by repeat (first | exact RowsIn.here | exact RowsIn.last | apply RowsIn.there | apply RowsIn.thereS)) _ (by omega)) | exact Sees.own (WRowsIn.mem (by repeat (first | exact WRowsIn.here | exact WRowsIn.last | apply WRowsIn.there | apply WRowsIn.thereS)) _ (by omega))) (by (try dsimp only); have h71 := valid_small (valid_is (dd_valid hd40)); have h72 := dd_len0 hd40; have h73 := hd40.n2; have h74 := hd40.n1; have h75 := hd40.m1; have h76 := hd40.m2; omega)) ?_
                                        refine VL.r (.inr ⟨_, _, _, rfl, rfl, rfl⟩) rfl (by decide) (yr_fcmp (b := 3208642560) rfl (.inr (.inl rfl)) rfl rfl) ?_
                                        refine VL.r (.inr ⟨_, _, _, rfl, rfl, rfl⟩) rfl (by decide) (yr_pick_t rfl rfl rfl) ?_
                                        refine VL.r (.inl rfl) rfl (by decide) (yr_pick_f rfl rfl rfl) ?_
                                        refine VL.nil ?_
                                        refine VE.then_wp ?_
                                        refine V.cond rfl (fun h23 => ?_) (fun h23 => ?_)
                                        · skip
                                          rcases sgn_at (SQ xss40 ws40 gs40) x50 hj1 with e9 | e9
                                          · rw [e9] at hs9; exact absurd hs9 (Bool.eq_false_iff.1 ne75.1)
                                          · rw [e9] at h23; exact absurd h23 (Bool.eq_false_iff.1 ne75.2)
                                        · skip
                                          refine V.skip ?_
                                          refine VE.block_normal ?_
                                          refine VE.then_wp ?_
                                          refine V.region ?_
                                          refine VL.r (.inl rfl) rfl (by decide) (yr_int rfl rfl rfl (.inl ⟨rfl, wrap_in (by (try dsimp only); have h71 := valid_small (valid_is (dd_valid hd40)); have h72 := dd_len0 hd40; have h73 := hd40.n2; have h74 := hd40.n1; have h75 := hd40.m1; have h76 := hd40.m2; omega)⟩)) ?_
                                          refine VL.r (.inl rfl) rfl (by decide) (yr_move rfl rfl) ?_
                                          refine VL.nil ?_
                                          refine VE.round (i + 1) ?_ ?_ ?_ ?_ ?_
                                          · exact (.cons rfl .nil)
                                          · exact (.cons rfl (.cons rfl (.cons rfl (.cons rfl (.cons rfl .nil)))))
                                          · exact (fun w hw => hw)
                                          · (try dsimp only); omega
                                          · (try dsimp only); omega
                                      · skip
                                        refine VL.no rfl rfl rfl rfl rfl (by decide) ?_
                                        refine VL.no rfl rfl rfl rfl rfl (by decide) ?_
                                        refine VL.no rfl rfl rfl rfl rfl (by decide) ?_
                                        refine VL.no rfl rfl rfl rfl rfl (by decide) ?_
                                        refine VL.no rfl rfl rfl rfl rfl (by decide) ?_
                                        refine VL.r (.inr ⟨_, _, _, rfl, rfl, rfl⟩) rfl (by decide) (yr_pick_f (u := .bool false) rfl rfl rfl) ?_
                                        refine VL.r (.inl rfl) rfl (by decide) (yr_pick_f rfl rfl rfl) ?_
                                        refine VL.nil ?_
                                        refine VE.then_wp ?_
                                        refine V.condF rfl ?_
                                        refine V.skip ?_
                                        refine VE.block_normal ?_
                                        refine VE.then_wp ?_
                                        refine V.region ?_
                                        refine VL.r (.inl rfl) rfl (by decide) (yr_int rfl rfl rfl (.inl ⟨rfl, wrap_in (by (try dsimp only); have h71 := valid_small (valid_is (dd_valid hd40)); have h72 := dd_len0 hd40; have h73 := hd40.n2; have h74 := hd40.n1; have h75 := hd40.m1; have h76 := hd40.m2; omega)⟩)) ?_
                                        refine VL.r (.inl rfl) rfl (by decide) (yr_move rfl rfl) ?_
                                        refine VL.nil ?_
                                        refine VE.round (i + 1) ?_ ?_ ?_ ?_ ?_
                                        · exact (.cons rfl .nil)
                                        · exact (.cons rfl (.cons rfl (.cons rfl (.cons rfl (.cons rfl .nil)))))
                                        · exact (fun w hw => hw)
                                        · (try dsimp only); omega
                                        · (try dsimp only); omega
                                · skip
                                  replace h19 := ic_lss' h19
                                  refine V.exit ?_
                                  refine VE.then_exit ?_
                                  refine VE.then_exit ?_
                                  refine VE.block_here ?_
                                  refine VE.then_wp ?_
                                  refine V.seq ?_
                                  refine V.region ?_
                                  refine VL.q (.inl rfl) rfl (by decide) (yq_loadS rfl Try.underlying27 sz27_Rn rfl (by first | exact Sees.root (by assumption) | exact Sees.own (by repeat (first | exact List.mem_cons_self | exact List.mem_append_left _ (by assumption) | apply List.mem_cons_of_mem | apply List.mem_append_right)) | exact Sees.root (hR _ (by omega)) | exact Sees.own (RowsIn.mem (by repeat (first | exact RowsIn.here | exact RowsIn.last | apply RowsIn.there | apply RowsIn.thereS)) _ (by omega)) | exact Sees.own (WRowsIn.mem (by repeat (first | exact WRowsIn.here | exact WRowsIn.last | apply WRowsIn.there | apply WRowsIn.thereS)) _ (by omega))) rfl rfl rfl) ?_
                                  refine VL.r (.inl rfl) rfl (by decide) (yr_move rfl rfl) ?_
                                  refine VL.new1 (.inl rfl) rfl (by decide) (yn_callf rfl known14_Rn (.cons rfl (.cons rfl .nil)) (fun w hw => (c_missE (ys := (missL xss40 ws40 xs48 xss40.length)) (by first | exact Sees.root (by assumption) w hw | exact Sees.own (by repeat (first | exact List.mem_cons_self | exact List.mem_append_left _ (by assumption) | apply List.mem_cons_of_mem | apply List.mem_append_right)) w hw) (by first | exact Rws.root (by assumption) hw | exact Rws.own (by repeat (first | exact RowsIn.here | exact RowsIn.last | apply RowsIn.there | apply RowsIn.thereS)) hw) (by first | exact Sees.root (by assumption) w hw | exact Sees.own (by repeat (first | exact List.mem_cons_self | exact List.mem_append_left _ (by assumption) | apply List.mem_cons_of_mem | apply List.mem_append_right)) w hw) (by first | exact Sees.root (by assumption) w hw | exact Sees.own (by repeat (first | exact List.mem_cons_self | exact List.mem_append_left _ (by assumption) | apply List.mem_cons_of_mem | apply List.mem_append_right)) w hw) (by first | exact Sees.root (by assumption) w hw | exact Sees.own (by repeat (first | exact List.mem_cons_self | exact List.mem_append_left _ (by assumption) | apply List.mem_cons_of_mem | apply List.mem_append_right)) w hw) (by (try dsimp only); have h71 := valid_small (valid_is (dd_valid hd40)); have h72 := dd_len0 hd40; have h73 := hd40.n2; have h74 := hd40.n1; have h75 := hd40.m1; have h76 := hd40.m2; omega) (dd_fits hd40 hl9) (missesD_yes (dd_fits hd40 hl9))))) ?_
                                  rintro ⟨a239, c239⟩
                                  refine VL.r (.inl rfl) rfl (by decide) (yr_move rfl rfl) ?_
                                  refine VL.r (.inl rfl) rfl (by decide) (yr_extract rfl rfl rfl (by nofun)) ?_
                                  refine VL.r (.inl rfl) rfl (by decide) (yr_extract rfl rfl rfl (by nofun)) ?_
                                  refine VL.r (.inl rfl) rfl (by decide) (yr_assign rfl rfl) ?_
                                  refine VL.r (.inl rfl) rfl (by decide) (yr_assign rfl rfl) ?_
                                  refine VL.nil ?_
                                  refine VE.then_wp ?_
                                  refine V.seq ?_
                                  refine V.region ?_
                                  refine VL.q (.inl rfl) rfl (by decide) (yq_loadS rfl Try.underlying27 sz27_Rn rfl (by first | exact Sees.root (by assumption) | exact Sees.own (by repeat (first | exact List.mem_cons_self | exact List.mem_append_left _ (by assumption) | apply List.mem_cons_of_mem | apply List.mem_append_right)) | exact Sees.root (hR _ (by omega)) | exact Sees.own (RowsIn.mem (by repeat (first | exact RowsIn.here | exact RowsIn.last | apply RowsIn.there | apply RowsIn.thereS)) _ (by omega)) | exact Sees.own (WRowsIn.mem (by repeat (first | exact WRowsIn.here | exact WRowsIn.last | apply WRowsIn.there | apply WRowsIn.thereS)) _ (by omega))) rfl rfl rfl) ?_
                                  refine VL.r (.inl rfl) rfl (by decide) (yr_move rfl rfl) ?_
                                  refine VL.q (.inl rfl) rfl (by decide) (yq_callf rfl known15_Rn (.cons rfl (.cons rfl .nil)) (fun w hw => (c_worstE (by first | exact Sees.root (by assumption) w hw | exact Sees.own (by repeat (first | exact List.mem_cons_self | exact List.mem_append_left _ (by assumption) | apply List.mem_cons_of_mem | apply List.mem_append_right)) w hw) (by first | exact Rws.root (by assumption) hw | exact Rws.own (by repeat (first | exact RowsIn.here | exact RowsIn.last | apply RowsIn.there | apply RowsIn.thereS)) hw) (by first | exact Sees.root (by assumption) w hw | exact Sees.own (by repeat (first | exact List.mem_cons_self | exact List.mem_append_left _ (by assumption) | apply List.mem_cons_of_mem | apply List.mem_append_right)) w hw) (by first | exact Sees.root (by assumption) w hw | exact Sees.own (by repeat (first | exact List.mem_cons_self | exact List.mem_append_left _ (by assumption) | apply List.mem_cons_of_mem | apply List.mem_append_right)) w hw) (by first | exact Sees.root (by assumption) w hw | exact Sees.own (by repeat (first | exact List.mem_cons_self | exact List.mem_append_left _ (by assumption) | apply List.mem_cons_of_mem | apply List.mem_append_right)) w hw) (by (try dsimp only); have h71 := valid_small (valid_is (dd_valid hd40)); have h72 := dd_len0 hd40; have h73 := hd40.n2; have h74 := hd40.n1; have h75 := hd40.m1; have h76 := hd40.m2; omega) (worst_all hd40 hq48 hl9).1))) ?_
                                  refine VL.r (.inl rfl) rfl (by decide) (yr_move rfl rfl) ?_
                                  refine VL.r (.inl rfl) rfl (by decide) (yr_extract rfl rfl rfl (by nofun)) ?_
                                  refine VL.r (.inl rfl) rfl (by decide) (yr_extract rfl rfl rfl (by nofun)) ?_
                                  refine VL.r (.inl rfl) rfl (by decide) (yr_extract rfl rfl rfl (by nofun)) ?_
                                  refine VL.r (.inl rfl) rfl (by decide) (yr_assign rfl rfl) ?_
                                  refine VL.r (.inl rfl) rfl (by decide) (yr_assign rfl rfl) ?_
                                  refine VL.r (.inl rfl) rfl (by decide) (yr_assign rfl rfl) ?_
                                  refine VL.nil ?_
                                  refine VE.then_wp ?_
                                  refine V.seq ?_
                                  refine V.seq ?_
                                  refine V.region ?_
                                  refine VL.r (.inl rfl) rfl (by decide) (yr_move rfl rfl) ?_
                                  refine VL.r (.inl rfl) rfl (by decide) (yr_not rfl rfl) ?_
                                  refine VL.r (.inl rfl) rfl (by decide) (yr_move rfl rfl) ?_
                                  refine VX.split 251 _ rfl (fun h25 => ?_) (fun h25 => ?_)
                                  · skip
                                    replace h25 := bnot_t h25
                                    first | cases h25 | (simp at h25; done)
                                  · skip
                                    replace h25 := bnot_f h25
                                    refine VL.r (.inr ⟨_, _, _, rfl, rfl, rfl⟩) rfl (by decide) (yr_move rfl rfl) ?_
                                    refine VL.r (.inr ⟨_, _, _, rfl, rfl, rfl⟩) rfl (by decide) (yr_not rfl rfl) ?_
                                    refine VL.r (.inl rfl) rfl (by decide) (yr_pick_f rfl rfl rfl) ?_
                                    refine VL.r (.inl rfl) rfl (by decide) (yr_move rfl rfl) ?_
                                    refine VX.split 255 _ rfl (fun h26 => ?_) (fun h26 => ?_)
                                    · skip
                                      replace h26 := bnot_t h26
                                      first | cases h26 | (simp at h26; done)
                                    · skip
                                      replace h26 := bnot_f h26
                                      refine VL.r (.inr ⟨_, _, _, rfl, rfl, rfl⟩) rfl (by decide) (yr_move rfl rfl) ?_
                                      refine VL.r (.inr ⟨_, _, _, rfl, rfl, rfl⟩) rfl (by decide) (yr_len rfl Try.underlying25 rfl) ?_
                                      refine VL.r (.inr ⟨_, _, _, rfl, rfl, rfl⟩) rfl (by decide) (yr_fieldAddr rfl Try.underlying27 rfl rfl sz24_Rn (by decide) rfl) ?_
                                      refine VL.q (.inr ⟨_, _, _, rfl, rfl, rfl⟩) rfl (by decide) (yq_load rfl fb24_Rn rfl (by first | exact Sees.root (by assumption) | exact Sees.own (by repeat (first | exact List.mem_cons_self | exact List.mem_append_left _ (by assumption) | apply List.mem_cons_of_mem | apply List.mem_append_right)) | exact Sees.root (hR _ (by omega)) | exact Sees.own (RowsIn.mem (by repeat (first | exact RowsIn.here | exact RowsIn.last | apply RowsIn.there | apply RowsIn.thereS)) _ (by omega)) | exact Sees.own (WRowsIn.mem (by repeat (first | exact WRowsIn.here | exact WRowsIn.last | apply WRowsIn.there | apply WRowsIn.thereS)) _ (by omega))) rfl) ?_
                                      refine VL.r (.inr ⟨_, _, _, rfl, rfl, rfl⟩) rfl (by decide) (yr_len rfl Try.underlying24 rfl) ?_
                                      refine VL.r (.inr ⟨_, _, _, rfl, rfl, rfl⟩) rfl (by decide) (yr_icmp rfl (.inr (.inl rfl)) rfl rfl) ?_
                                      refine VL.r (.inl rfl) rfl (by decide) (yr_pick_f rfl rfl rfl) ?_
                                      refine VL.r (.inl rfl) rfl (by decide) (yr_move rfl rfl) ?_
                                      refine VX.split 263 _ rfl (fun h27 => ?_) (fun h27 => ?_)
                                      · skip
                                        replace h27 := ic_neq h27
                                        exfalso; have h8 := missL_length xss40 ws40 xs48 xss40.length; (try dsimp only at h27); omega
                                      · skip
                                        replace h27 := ic_neq' h27
                                        refine VL.r (.inr ⟨_, _, _, rfl, rfl, rfl⟩) rfl (by decide) (yr_move rfl rfl) ?_
                                        refine VL.r (.inr ⟨_, _, _, rfl, rfl, rfl⟩) rfl (by decide) (yr_icmp rfl (.inr (.inr (.inl rfl))) rfl rfl) ?_
                                        refine VL.r (.inl rfl) rfl (by decide) (yr_pick_f rfl rfl rfl) ?_
                                        refine VL.r (.inl rfl) rfl (by decide) (yr_move rfl rfl) ?_
                                        refine VX.split 267 _ rfl (fun h28 => ?_) (fun h28 => ?_)
                                        · skip
                                          replace h28 := ic_lss h28
                                          exfalso; have h8 := (worst_all hd40 hq48 hl9).2.1; (try dsimp only at h28); omega
                                        · skip
                                          replace h28 := ic_lss' h28
                                          refine VL.r (.inr ⟨_, _, _, rfl, rfl, rfl⟩) rfl (by decide) (yr_move rfl rfl) ?_
                                          refine VL.r (.inr ⟨_, _, _, rfl, rfl, rfl⟩) rfl (by decide) (yr_move rfl rfl) ?_
                                          refine VL.r (.inr ⟨_, _, _, rfl, rfl, rfl⟩) rfl (by decide) (yr_len rfl Try.underlying25 rfl) ?_
                                          refine VL.r (.inr ⟨_, _, _, rfl, rfl, rfl⟩) rfl (by decide) (yr_icmp rfl (.inr (.inr (.inr (.inr (.inr rfl))))) rfl rfl) ?_
                                          refine VL.r (.inl rfl) rfl (by decide) (yr_pick_f rfl rfl rfl) ?_
                                          refine VL.nil ?_
                                          refine VE.then_wp ?_
                                          refine V.cond rfl (fun h29 => ?_) (fun h29 => ?_)
                                          · skip
                                            replace h29 := ic_geq h29
                                            exfalso; have h8 := (worst_all hd40 hq48 hl9).2.1; have h9 := missL_length xss40 ws40 xs48 xss40.length; (try dsimp only at h29); omega
                                          · skip
                                            replace h29 := ic_geq' h29
                                            refine V.skip ?_
                                            refine VE.then_wp ?_
                                            refine V.seq ?_
                                            refine V.seq ?_
                                            refine V.region ?_
                                            refine VL.r (.inl rfl) rfl (by decide) (yr_move rfl rfl) ?_
                                            refine VL.r (.inl rfl) rfl (by decide) (yr_len rfl Try.underlying25 rfl) ?_
                                            refine VL.r (.inl rfl) rfl (by decide) (yr_move (u := .int .i64 0) rfl rfl) ?_
                                            refine VL.nil ?_
                                            refine VE.then_wp ?_
                                            refine V.block ?_
                                            refine V.loops (G := Nat) [(30, _), (33, _), (274, _)] (fun (i : Nat) => i ≤ (missL xss40 ws40 xs48 xss40.length).length) (fun (i : Nat) => [(275, .int .i64 (i : Int))]) (fun (i : Nat) => (missL xss40 ws40 xs48 xss40.length).length - i) 0 (.cons rfl (.cons rfl (.cons rfl .nil))) (.cons rfl .nil) ?_ ?_
                                            · exact (Nat.zero_le _)
                                            rintro i hi9
                                            show V _ _ _ _ ([(275, .int .i64 (i : Int))] ++ [(30, _), (33, _), (274, _)]) _ _
                                            refine V.seq ?_
                                            refine V.region ?_
                                            refine VL.r (.inl rfl) rfl (by decide) (yr_icmp rfl (.inr (.inr (.inl rfl))) rfl rfl) ?_
                                            refine VL.nil ?_
                                            refine VE.then_wp ?_
                                            refine V.seq ?_
                                            refine V.cond rfl (fun h30 => ?_) (fun h30 => ?_)
                                            · skip
                                              replace h30 := ic_lss h30
                                              replace h30 : i < xss40.length := by rw [← missL_length xss40 ws40 xs48 xss40.length]; (try dsimp only at h30); omega
                                              have hj1 : i < (missL xss40 ws40 xs48 xss40.length).length := by rw [missL_length]; exact h30
                                              have hw9 := worst_all hd40 hq48 hl9
                                              refine V.skip ?_
                                              refine VE.then_wp ?_
                                              refine V.seq ?_
                                              refine V.block ?_
                                              refine V.seq ?_
                                              refine V.region ?_
                                              refine VL.r (.inl rfl) rfl (by decide) (yr_move rfl rfl) ?_
                                              refine VL.r (.inl rfl) rfl (by decide) (yr_assign rfl rfl) ?_
                                              refine VL.nil ?_
                                              refine VE.then_wp ?_
                                              refine V.seq ?_
                                              refine V.region ?_
                                              refine VL.r (.inl rfl) rfl (by decide) (yr_move rfl rfl) ?_
                                              refine VL.r (.inl rfl) rfl (by decide) (yr_move rfl rfl) ?_
                                              refine VL.q (.inl rfl) rfl (by decide) (yq_idx (k := i) rfl Try.underlying25 sz33_Rn rfl rfl (by first | exact Sees.root (by assumption) | exact Sees.own (by repeat (first | exact List.mem_cons_self | exact List.mem_append_left _ (by assumption) | apply List.mem_cons_of_mem | apply List.mem_append_right)) | exact Sees.root (hR _ (by omega)) | exact Sees.own (RowsIn.mem (by repeat (first | exact RowsIn.here | exact RowsIn.last | apply RowsIn.there | apply RowsIn.thereS)) _ (by omega)) | exact Sees.own (WRowsIn.mem (by repeat (first | exact WRowsIn.here | exact WRowsIn.last | apply WRowsIn.there | apply WRowsIn.thereS)) _ (by omega))) (by first | rfl | omega | (push_cast; rfl) | (push_cast; omega) | exact tmod_nat _ _) (by first | exact hd_length _ _ | exact fl_length _) (by (try dsimp only); have h71 := valid_small (valid_is (dd_valid hd40)); have h72 := dd_len0 hd40; have h73 := hd40.n2; have h74 := hd40.n1; have h75 := hd40.m1; have h76 := hd40.m2; omega)) ?_
                                              refine VL.q (.inl rfl) rfl (by decide) (yq_loadF rfl fb33_Rn rfl (by first | exact Sees.root (by assumption) | exact Sees.own (by repeat (first | exact List.mem_cons_self | exact List.mem_append_left _ (by assumption) | apply List.mem_cons_of_mem | apply List.mem_append_right)) | exact Sees.root (hR _ (by omega)) | exact Sees.own (RowsIn.mem (by repeat (first | exact RowsIn.here | exact RowsIn.last | apply RowsIn.there | apply RowsIn.thereS)) _ (by omega)) | exact Sees.own (WRowsIn.mem (by repeat (first | exact WRowsIn.here | exact WRowsIn.last | apply WRowsIn.there | apply WRowsIn.thereS)) _ (by omega))) (by (try dsimp only); have h71 := valid_small (valid_is (dd_valid hd40)); have h72 := dd_len0 hd40; have h73 := hd40.n2; have h74 := hd40.n1; have h75 := hd40.m1; have h76 := hd40.m2; omega)) ?_
                                              refine VL.r (.inl rfl) rfl (by decide) (yr_move rfl rfl) ?_
                                              refine VL.r (.inl rfl) rfl (by decide) (yr_fcmp rfl (.inr (.inr (.inr (.inr (.inl rfl))))) rfl rfl) ?_
                                              refine VL.r (.inl rfl) rfl (by decide) (yr_move rfl rfl) ?_
                                              refine VX.split 284 _ rfl (fun h31 => ?_) (fun h31 => ?_)
                                              · skip
                                                rw [missL_get _ _ _ (by assumption)] at h31; exact absurd h31 (Bool.eq_false_iff.1 (hw9.2.2 i (by assumption)).1)
                                              · skip
                                                refine VL.r (.inr ⟨_, _, _, rfl, rfl, rfl⟩) rfl (by decide) (yr_move rfl rfl) ?_
                                                refine VL.r (.inr ⟨_, _, _, rfl, rfl, rfl⟩) rfl (by decide) (yr_move rfl rfl) ?_
                                                refine VL.q (.inr ⟨_, _, _, rfl, rfl, rfl⟩) rfl (by decide) (yq_idx (k := i) rfl Try.underlying25 sz33_Rn rfl rfl (by first | exact Sees.root (by assumption) | exact Sees.own (by repeat (first | exact List.mem_cons_self | exact List.mem_append_left _ (by assumption) | apply List.mem_cons_of_mem | apply List.mem_append_right)) | exact Sees.root (hR _ (by omega)) | exact Sees.own (RowsIn.mem (by repeat (first | exact RowsIn.here | exact RowsIn.last | apply RowsIn.there | apply RowsIn.thereS)) _ (by omega)) | exact Sees.own (WRowsIn.mem (by repeat (first | exact WRowsIn.here | exact WRowsIn.last | apply WRowsIn.there | apply WRowsIn.thereS)) _ (by omega))) (by first | rfl | omega | (push_cast; rfl) | (push_cast; omega) | exact tmod_nat _ _) (by first | exact hd_length _ _ | exact fl_length _) (by (try dsimp only); have h71 := valid_small (valid_is (dd_valid hd40)); have h72 := dd_len0 hd40; have h73 := hd40.n2; have h74 := hd40.n1; have h75 := hd40.m1; have h76 := hd40.m2; omega)) ?_
                                                refine VL.q (.inr ⟨_, _, _, rfl, rfl, rfl⟩) rfl (by decide) (yq_loadF rfl fb33_Rn rfl (by first | exact Sees.root (by assumption) | exact Sees.own (by repeat (first | exact List.mem_cons_self | exact List.mem_append_left _ (by assumption) | apply List.mem_cons_of_mem | apply List.mem_append_right)) | exact Sees.root (hR _ (by omega)) | exact Sees.own (RowsIn.mem (by repeat (first | exact RowsIn.here | exact RowsIn.last | apply RowsIn.there | apply RowsIn.thereS)) _ (by omega)) | exact Sees.own (WRowsIn.mem (by repeat (first | exact WRowsIn.here | exact WRowsIn.last | apply WRowsIn.there | apply WRowsIn.thereS)) _ (by omega))) (by (try dsimp only); have h71 := valid_small (valid_is (dd_valid hd40)); have h72 := dd_len0 hd40; have h73 := hd40.n2; have h74 := hd40.n1; have h75 := hd40.m1; have h76 := hd40.m2; omega)) ?_
                                                refine VL.r (.inr ⟨_, _, _, rfl, rfl, rfl⟩) rfl (by decide) (yr_fneg rfl rfl) ?_
                                                refine VL.r (.inr ⟨_, _, _, rfl, rfl, rfl⟩) rfl (by decide) (yr_move rfl rfl) ?_
                                                refine VL.r (.inr ⟨_, _, _, rfl, rfl, rfl⟩) rfl (by decide) (yr_fcmp rfl (.inr (.inr (.inr (.inr (.inl rfl))))) rfl rfl) ?_
                                                refine VL.r (.inl rfl) rfl (by decide) (yr_pick_f rfl rfl rfl) ?_
                                                refine VL.nil ?_
                                                refine VE.then_wp ?_
                                                refine V.cond rfl (fun h32 => ?_) (fun h32 => ?_)
                                                · skip
                                                  rw [missL_get _ _ _ (by assumption)] at h32; exact absurd h32 (Bool.eq_false_iff.1 (hw9.2.2 i (by assumption)).2)
                                                · skip
                                                  refine V.skip ?_
                                                  refine VE.block_normal ?_
                                                  refine VE.then_wp ?_
                                                  refine V.region ?_
                                                  refine VL.r (.inl rfl) rfl (by decide) (yr_int rfl rfl rfl (.inl ⟨rfl, wrap_in (by (try dsimp only); have h71 := valid_small (valid_is (dd_valid hd40)); have h72 := dd_len0 hd40; have h73 := hd40.n2; have h74 := hd40.n1; have h75 := hd40.m1; have h76 := hd40.m2; omega)⟩)) ?_
                                                  refine VL.r (.inl rfl) rfl (by decide) (yr_move rfl rfl) ?_
                                                  refine VL.nil ?_
                                                  refine VE.round (i + 1) ?_ ?_ ?_ ?_ ?_
                                                  · exact (.cons rfl .nil)
                                                  · exact (.cons rfl (.cons rfl (.cons rfl .nil)))
                                                  · exact (fun w hw => hw)
                                                  · (try dsimp only); omega
                                                  · (try dsimp only); omega
                                            · skip
                                              replace h30 := ic_lss' h30
                                              refine V.exit ?_
                                              refine VE.then_exit ?_
                                              refine VE.then_exit ?_
                                              refine VE.block_here ?_
                                              refine VE.then_wp ?_
                                              refine V.seq ?_
                                              refine V.region ?_
                                              refine VL.r (.inl rfl) rfl (by decide) (yr_assign (u := .bool true) rfl rfl) ?_
                                              refine VL.nil ?_
                                              refine VE.then_wp ?_
                                              refine V.ret ?_
                                              refine ret1 rfl rfl (fun w1 hw => ?_)
                                              exact ⟨rfl, hw.below⟩

end Go.Proofs.Ytalimcjmaoapkaa

