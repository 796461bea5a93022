/- Own texts of this claim, merged: QWFt, Ye, Yf, Yg, Yh, Yi, Yj, Yk. -/
import Derived.KernelRfl
import Derived.Test.YtgeflnjjppgooaaKFnFitted9
namespace Go.Proofs.Ytgeflnjjppgooaa.Q
open Go.RowKit
set_option linter.unusedVariables false
set_option linter.unusedSimpArgs false
set_option maxRecDepth 20000
set_option maxHeartbeats 800000
attribute [local irreducible] wqList Wq
theorem known20_Ft : Known Try.prog 20 := Known.mk' Try.func20 (by kernel_rfl)
theorem known21_Ft : Known Try.prog 21 := Known.mk' Try.func21 (by kernel_rfl)
theorem zero30_Ft : (Try.prog.info? 30).bind (·.zero) = some (Value.agg #[Value.slice none 0 0, Value.slice none 0 0, Value.slice none 0 0]) := by kernel_rfl
theorem sz30_Ft : (Try.prog.info? 30).map (·.size) = some 3 := by kernel_rfl
theorem sz22_Ft : (Try.prog.info? 22).map (·.size) = some 1 := by kernel_rfl
theorem fb22_Ft : flatB Try.prog 22 = true := by kernel_rfl
theorem sz23_Ft : (Try.prog.info? 23).map (·.size) = some 1 := by kernel_rfl
theorem fb23_Ft : flatB Try.prog 23 = true := by kernel_rfl
theorem known10_Ft : Known Try.prog 10 := Known.mk' Try.func10 (by kernel_rfl)
theorem mixed_Ft : Try.prog.follows .mixedOrders = true := by kernel_rfl
theorem known22_Ft : Known Try.prog 22 := Known.mk' Try.func22 (by kernel_rfl)
theorem known17_Ft : Known Try.prog 17 := Known.mk' Try.func17 (by kernel_rfl)
theorem known19_Ft : Known Try.prog 19 := Known.mk' Try.func19 (by kernel_rfl)
theorem known23_Ft : Known Try.prog 23 := Known.mk' Try.func23 (by kernel_rfl)
theorem known24_Ft : Known Try.prog 24 := Known.mk' Try.func24 (by kernel_rfl)
theorem known25_Ft : Known Try.prog 25 := Known.mk' Try.func25 (by kernel_rfl)
theorem known26_Ft : Known Try.prog 26 := Known.mk' Try.func26 (by kernel_rfl)
theorem known27_Ft : Known Try.prog 27 := Known.mk' Try.func27 (by kernel_rfl)
theorem known28_Ft : Known Try.prog 28 := Known.mk' Try.func28 (by kernel_rfl)
theorem sz26_Ft : (Try.prog.info? 26).map (·.size) = some 1 := by kernel_rfl
theorem fb26_Ft : flatB Try.prog 26 = true := by kernel_rfl
theorem known29_Ft : Known Try.prog 29 := Known.mk' Try.func29 (by kernel_rfl)
theorem elt51_Ft : Elt Try.prog 51 [Value.float .f64 0] 8 := Elt.mk' (by kernel_rfl) (by decide)
theorem known30_Ft : Known Try.prog 30 := Known.mk' Try.func30 (by kernel_rfl)
theorem sz51_Ft : (Try.prog.info? 51).map (·.size) = some 1 := by kernel_rfl
theorem fb51_Ft : flatB Try.prog 51 = true := by kernel_rfl
attribute [local irreducible] fop fcmp fconv fneg fabs List.getD qw hqw w2w g2w normOk normAD normBD shOk shAD shBD ftOk ftD ridgeOk ridgeD cholOk cholOf solveOk solveOf blockOk blockAD blockBD gapF
theorem c_normE {w : World} {a a1 a2 : Option Addr} {c c1 c2 : Nat} {f : Nat → Option Addr × Nat} {xss : List (List Nat)} {ws gs : List Nat} {x : Nat} (hA : Cl w a (hd f xss)) (hR : Rws w f xss) (hW : Cl w a1 (fl ws)) (hG : Cl w a2 (fl gs)) (hsz : bulk xss + ws.length + gs.length ≤ 1050000) {ys zs : List Nat} (hok : normOk xss ws gs x = true) (ea : normAD xss ws gs x = ys) (eb : normBD xss ws gs x = zs) : New Try.prog 10 [.agg #[.slice a xss.length c, .slice a1 ws.length c1, .slice a2 gs.length c2], .float .f32 x] w (fun p : (Option Addr × Nat) × (Option Addr × Nat) => .tuple #[.slice p.1.1 ys.length p.1.2, .slice p.2.1 zs.length p.2.2, .bool true]) (fun p => [⟨p.2.1, fl zs, p.2.2 * 1, 26⟩, ⟨p.1.1, fl ys, p.1.2 * 1, 26⟩]) := by
  have h := c_implNorm (w := w) (a := a) (a1 := a1) (a2 := a2) (c := c) (c1 := c1) (c2 := c2) (f := f) (xss := xss) (ws := ws) (gs := gs) (x := x) hA hR hW hG hsz
  rw [ea, eb, hok] at h
  exact h
theorem c_shE {w : World} {a a1 a2 : Option Addr} {c c1 c2 : Nat} {f : Nat → Option Addr × Nat} {xss : List (List Nat)} {ws gs : List Nat} {x : Nat} {n : Int} (hA : Cl w a (hd f xss)) (hR : Rws w f xss) (hW : Cl w a1 (fl ws)) (hG : Cl w a2 (fl gs)) (hsz : bulk xss + ws.length + gs.length ≤ 1050000) {ys zs : List Nat} (hok : shOk xss ws gs x n = true) (ea : shAD xss ws gs x n = ys) (eb : shBD xss ws gs x n = zs) : New Try.prog 17 [.agg #[.slice a xss.length c, .slice a1 ws.length c1, .slice a2 gs.length c2], .float .f32 x, .int .i64 n] w (fun p : (Option Addr × Nat) × (Option Addr × Nat) => .tuple #[.slice p.1.1 ys.length p.1.2, .slice p.2.1 zs.length p.2.2, .bool true]) (fun p => [⟨p.2.1, fl zs, p.2.2 * 1, 26⟩, ⟨p.1.1, fl ys, p.1.2 * 1, 26⟩]) := by
  have h := c_implShared (w := w) (a := a) (a1 := a1) (a2 := a2) (c := c) (c1 := c1) (c2 := c2) (f := f) (xss := xss) (ws := ws) (gs := gs) (x := x) (n := n) hA hR hW hG hsz
  rw [ea, eb, hok] at h
  exact h
theorem c_fitE {w : World} {a a1 a2 : Option Addr} {c c1 c2 : Nat} {f : Nat → Option Addr × Nat} {xss : List (List Nat)} {ws gs : List Nat} {x : Nat} (hA : Cl w a (hd f xss)) (hR : Rws w f xss) (hW : Cl w a1 (fl ws)) (hG : Cl w a2 (fl gs)) (hsz : bulk xss + ws.length + gs.length ≤ 1050000) {ys : List Nat} (hok : ftOk xss ws gs x = true) (ea : ftD xss ws gs x = ys) : New Try.prog 19 [.agg #[.slice a xss.length c, .slice a1 ws.length c1, .slice a2 gs.length c2], .float .f32 x] w (fun p : Option Addr × Nat => .tuple #[.slice p.1 ys.length p.2, .bool true]) (fun p => [⟨p.1, fl ys, p.2 * 1, 26⟩]) := by
  have h := c_implFit (w := w) (a := a) (a1 := a1) (a2 := a2) (c := c) (c1 := c1) (c2 := c2) (f := f) (xss := xss) (ws := ws) (gs := gs) (x := x) hA hR hW hG hsz
  rw [ea, hok] at h
  exact h
theorem c_ridgeE [PhC] {w : World} {a a1 a2 : Option Addr} {c c1 c2 : Nat} {f : Nat → Option Addr × Nat} {xss : List (List Nat)} {ws gs : List Nat} {b : Option Addr} {d : Nat} {x : List Nat} {r : Nat} (hA : Cl w a (hd f xss)) (hR : Rws w f xss) (hW : Cl w a1 (fl ws)) (hG : Cl w a2 (fl gs)) (hB : Cl w b (fl x)) (hsz : bulk xss + ws.length + gs.length ≤ 1050000) (hok : ridgeOk xss ws gs x r = true) : Pure Try.prog 24 [.agg #[.slice a xss.length c, .slice a1 ws.length c1, .slice a2 gs.length c2], .slice b x.length d, .float .f32 r] w (.tuple #[.float .f32 (ridgeD xss ws gs x r), .bool true]) := by
  have h := c_implRidge (w := w) (a := a) (a1 := a1) (a2 := a2) (c := c) (c1 := c1) (c2 := c2) (f := f) (xss := xss) (ws := ws) (gs := gs) (b := b) (d := d) (x := x) (r := r) hA hR hW hG hB hsz
  rw [hok] at h
  exact h
theorem c_cholE [PhC] {w : World} {a : Option Addr} {c n : Nat} {xs : List Nat} (hA : Cl w a (fl xs)) (hxn : xs.length ≤ 1050000) (hn : n = side xs.length) {ys : List Nat} (hok : cholOk xs n = true) (ea : cholOf xs n = ys) : New Try.prog 25 [.slice a xs.length c] w (fun p : Option Addr × Nat => .tuple #[.slice p.1 ys.length p.2, .bool true]) (fun p => [⟨p.1, fl ys, p.2 * 1, 26⟩]) := by
  have h := c_implChol (w := w) (a := a) (c := c) (n := n) (xs := xs) hA hxn hn
  rw [ea, hok] at h
  exact h
theorem c_solveE [PhC] {w : World} {a b : Option Addr} {c d : Nat} {l bs : List Nat} (hA : Cl w a (fl l)) (hB : Cl w b (fl bs)) (hln : l.length ≤ 1050000) (hbn : bs.length ≤ 1050000) {ys : List Nat} (hok : solveOk l bs = true) (ea : solveOf l bs = ys) : New Try.prog 26 [.slice a l.length c, .slice b bs.length d] w (fun p : Option Addr × Nat => .tuple #[.slice p.1 ys.length p.2, .bool true]) (fun p => [⟨p.1, fl ys, p.2 * 1, 26⟩]) := by
  have h := c_implSolve (w := w) (a := a) (b := b) (c := c) (d := d) (l := l) (bs := bs) hA hB hln hbn
  rw [ea, hok] at h
  exact h
theorem c_blockE [PhC] {w : World} {a a1 a2 : Option Addr} {c c1 c2 : Nat} {f : Nat → Option Addr × Nat} {xss : List (List Nat)} {ws gs : List Nat} {k : Nat} (hA : Cl w a (hd f xss)) (hR : Rws w f xss) (hW : Cl w a1 (fl ws)) (hG : Cl w a2 (fl gs)) (hsz : bulk xss + ws.length + gs.length ≤ 1050000) (hok : blockOk xss ws gs (k : Int) = true) : New Try.prog 30 [.agg #[.slice a xss.length c, .slice a1 ws.length c1, .slice a2 gs.length c2], .int .i64 (k : Int)] w (fun p : (Option Addr × Nat) × (Option Addr × Nat) => .tuple #[.slice p.1.1 ((xss.getD 0 []).length * (xss.getD 0 []).length) p.1.2, .slice p.2.1 (xss.getD 0 []).length p.2.2, .bool true]) (fun p => [⟨p.2.1, fl (blockB xss ws gs (k * 8) (min 8 (xss.length - k * 8)) (xss.getD 0 []).length), p.2.2 * 1, 26⟩, ⟨p.1.1, fl (blockA xss gs (k * 8) (min 8 (xss.length - k * 8)) (xss.getD 0 []).length), p.1.2 * 1, 26⟩]) := by
  have h := c_implBlock (w := w) (a := a) (a1 := a1) (a2 := a2) (c := c) (c1 := c1) (c2 := c2) (f := f) (xss := xss) (ws := ws) (gs := gs) (bi := (k : Int)) hA hR hW hG hsz
  rw [blockAD_yes hok, blockBD_yes hok, hok, blockA_length, blockB_length] at h
  exact h
theorem c_blockN [PhC] {w : World} {a a1 a2 : Option Addr} {c c1 c2 : Nat} {f : Nat → Option Addr × Nat} {xss : List (List Nat)} {ws gs : List Nat} {k : Nat} (hA : Cl w a (hd f xss)) (hR : Rws w f xss) (hW : Cl w a1 (fl ws)) (hG : Cl w a2 (fl gs)) (hsz : bulk xss + ws.length + gs.length ≤ 1050000) (hok : blockOk xss ws gs (k : Int) = false) : New Try.prog 30 [.agg #[.slice a xss.length c, .slice a1 ws.length c1, .slice a2 gs.length c2], .int .i64 (k : Int)] w (fun p : (Option Addr × Nat) × (Option Addr × Nat) => .tuple #[.slice p.1.1 0 p.1.2, .slice p.2.1 0 p.2.2, .bool false]) (fun p => [⟨p.2.1, fl [], p.2.2 * 1, 26⟩, ⟨p.1.1, fl [], p.1.2 * 1, 26⟩]) := by
  have h := c_implBlock (w := w) (a := a) (a1 := a1) (a2 := a2) (c := c) (c1 := c1) (c2 := c2) (f := f) (xss := xss) (ws := ws) (gs := gs) (bi := (k : Int)) hA hR hW hG hsz
  rw [blockAD_no hok, blockBD_no hok, hok] at h
  exact h
theorem c_b10GapF [PhC] {w : World} {x y : Nat} : Pure Try.prog 29 [.float .f64 x, .float .f64 y] w (.float .f64 (gapF x y)) := by
  refine Pure.enter Try.func29 rfl Try.ntmps29 (Nat.le_of_ble_eq_true rfl) ?_
  refine V.seq (V.region ?_)
  refine vr (yr_assign (u := .float .f64 0) rfl rfl) ?_
  refine VL.nil (VE.then_wp (V.seq (V.seq (V.region ?_))))
  refine vr (yr_move rfl rfl) ?_
  refine vr (yr_move rfl rfl) ?_
  refine vr (yr_fcmp rfl (.inr (.inr (.inl rfl))) rfl rfl) ?_
  refine VL.nil (VE.then_wp ?_)
  refine V.cond rfl (fun h1 => ?_) (fun h1 => ?_)
  · skip
    refine V.seq (V.region ?_)
    refine vr (yr_move rfl rfl) ?_
    refine vr (yr_move rfl rfl) ?_
    refine vr (yr_float rfl (.inr (.inl rfl)) rfl rfl) ?_
    refine vr (yr_assign rfl rfl) ?_
    refine VL.nil (VE.then_wp (V.ret (VE.then_ret ?_)))
    refine ret1 rfl rfl (fun w1 hw => ?_)
    exact ⟨congrArg (Value.float .f64) (by unfold gapF; rw [if_pos (by assumption)]), hw.below⟩
  refine V.skip (VE.then_wp (V.seq (V.region ?_)))
  refine vr (yr_move rfl rfl) ?_
  refine vr (yr_move rfl rfl) ?_
  refine vr (yr_float rfl (.inr (.inl rfl)) rfl rfl) ?_
  refine vr (yr_assign rfl rfl) ?_
  refine VL.nil (VE.then_wp (V.ret ?_))
  refine ret1 rfl rfl (fun w1 hw => ?_)
  exact ⟨congrArg (Value.float .f64) (by unfold gapF; rw [if_neg (by simp [*])]), hw.below⟩
theorem law_Fitted {w : World} {a b : Option Addr} {c d : Nat} {bs cs : List Int} (hA : Cl w a (bl bs)) (hB : Cl w b (bl cs)) (hb : Bytes bs) (hcb : Bytes cs) : Pure Try.prog 6 [.slice a bs.length c, .slice b cs.length d] w (.bool true) := by
  refine Pure.enter Try.func6 rfl Try.ntmps6 (Nat.le_of_ble_eq_true rfl) ?_
  refine V.seq (V.region ?_)
  refine vr (yr_assign (u := .bool false) rfl rfl) ?_
  refine VL.nil (VE.then_wp (V.seq (V.seq (V.region ?_))))
  refine vr (yr_move rfl rfl) ?_
  refine vr (yr_move rfl rfl) ?_
  refine vq (yq_callf rfl known20_Ft (.cons rfl (.cons rfl .nil)) (fun w hw => c_b10Long)) ?_
  refine VL.nil (VE.then_wp ?_)
  refine V.cond rfl (fun h1 => ?_) (fun h1 => ?_)
  · skip
    refine V.seq (V.region ?_)
    refine vr (yr_assign (u := .bool true) rfl rfl) ?_
    refine VL.nil (VE.then_wp (V.ret (VE.then_ret ?_)))
    refine ret1 rfl rfl (fun w1 hw => ?_)
    exact ⟨rfl, hw.below⟩
  rw [Bool.or_eq_false_iff, decide_eq_false_iff_not, decide_eq_false_iff_not] at h1
  have hl1 := h1.1
  have hl2 := h1.2
  refine V.skip (VE.then_wp (V.seq (V.region ?_)))
  refine vr (yr_move rfl rfl) ?_
  refine VL.new (.inl rfl) rfl (by decide) (yn_callf rfl known21_Ft (.cons rfl .nil) (fun w hw => (c_b10Design zz1 hb (by omega)))) ?_
  rintro ⟨⟨⟨⟨⟨a44, c44⟩, f44⟩, ⟨p44, q44⟩, ⟨r44, s44⟩⟩, xss44, ws44, gs44, n44, at44, sd44⟩, hd44⟩
  dsimp only at hd44
  have e9 := dd_len0 hd44
  subst e9
  obtain ⟨A9, B9, l9, x9, hG⟩ := fit_good hd44
  refine VL.new1 (.inl rfl) rfl (by decide) (yn_alloc rfl zero30_Ft rfl) ?_
  intro b5
  refine VL.s (.inl rfl) rfl (yc_store rfl sz30_Ft rfl rfl zz8 (.inr ⟨rfl, rfl⟩) rfl (by first | exact Nat.le_of_ble_eq_true rfl | simp) (by decide) rfl) ?_
  rintro ⟨⟩
  refine VL.nil (VE.then_wp (V.seq (V.region ?_)))
  refine vr (yr_fieldAddr rfl Try.underlying30 rfl rfl sz22_Ft (by decide) rfl) ?_
  refine vq (yq_load rfl fb22_Ft rfl zz0 rfl) ?_
  refine vq (yq_idx (k := 0) rfl Try.underlying22 sz23_Ft rfl rfl zz0 zz3 zz11 zz4) ?_
  refine vq (yq_loadH rfl fb23_Ft rfl zz0 zz2) ?_
  refine vr (yr_len rfl Try.underlying23 rfl) ?_
  refine vr (yr_assign rfl rfl) ?_
  refine VL.nil (VE.then_wp (V.seq (V.region ?_)))
  refine vq (yq_loadS rfl Try.underlying30 sz30_Ft rfl zz0 rfl rfl rfl) ?_
  refine VL.new (.inl rfl) rfl (by decide) (yn_callf rfl known10_Ft (.cons rfl (.cons rfl .nil)) (fun w hw => (c_normE (x := 1056964608) (xss := xss44) (ws := ws44) (gs := gs44) zz1 zz7 zz1 zz1 zz2 hG.one hG.a1 hG.b1))) ?_
  rintro ⟨⟨a52, c52⟩, ⟨d52, e52⟩⟩
  refine vr (yr_move rfl rfl) ?_
  refine vr (yr_extract rfl rfl rfl (by nofun)) ?_
  refine vr (yr_extract rfl rfl rfl (by nofun)) ?_
  refine vr (yr_extract rfl rfl rfl (by nofun)) ?_
  refine vr (yr_assign rfl rfl) ?_
  refine vr (yr_assign rfl rfl) ?_
  refine vr (yr_assign rfl rfl) ?_
  refine VL.nil (VE.then_wp (V.seq ?_))
  refine V.draw [(0, 0), (1, 0), (2, 1), (3, 0), (4, 1), (5, 0), (6, 0), (7, 0), (8, 0), (9, 0), (10, 0), (11, 0)] mixed_Ft (by kernel_rfl) (by intro j o hj; simp at hj) ?_
  refine sq rfl (yq_loadS rfl Try.underlying30 sz30_Ft rfl zz0 rfl rfl rfl) ?_
  refine sr rfl (yr_move rfl rfl) ?_
  refine SW.new rfl (.inl rfl) rfl (by decide) (yn_callf rfl known22_Ft (.cons rfl (.cons rfl (.cons rfl .nil))) (fun w hw => (c_b10At (k := 0) (m := 8) zz1 hcb (by omega) (by decide) (by omega)))) ?_
  rintro ⟨x59, hx59⟩
  refine sr rfl (yr_addN (1 + x59) rfl rfl rfl (by push_cast; rfl) (by omega)) ?_
  refine SW.new rfl (.inl rfl) rfl (by decide) (yn_callf rfl known17_Ft (.cons rfl (.cons rfl (.cons rfl .nil))) (fun w hw => (c_shE (x := 1056964608) (xss := xss44) (ws := ws44) (gs := gs44) (n := ((1 + x59 : Nat) : Int)) zz1 zz7 zz1 zz1 zz2 (hG.two _ (by omega) (by omega)).1 (hG.two _ (by omega) (by omega)).2.1 (hG.two _ (by omega) (by omega)).2.2))) ?_
  rintro ⟨⟨a61, c61⟩, ⟨d61, e61⟩⟩
  refine sr rfl (yr_move rfl rfl) ?_
  refine sr rfl (yr_extract rfl rfl rfl (by nofun)) ?_
  refine sr rfl (yr_extract rfl rfl rfl (by nofun)) ?_
  refine sr rfl (yr_extract rfl rfl rfl (by nofun)) ?_
  refine sr rfl (yr_assign rfl rfl) ?_
  refine sr rfl (yr_assign rfl rfl) ?_
  refine sr rfl (yr_assign rfl rfl) ?_
  refine SW.done ?_
  refine VE.then_wp (V.seq (V.region ?_))
  refine vq (yq_loadS rfl Try.underlying30 sz30_Ft rfl zz0 rfl rfl rfl) ?_
  refine VL.new1 (.inl rfl) rfl (by decide) (yn_callf rfl known19_Ft (.cons rfl (.cons rfl .nil)) (fun w hw => (c_fitE (x := 1056964608) (xss := xss44) (ws := ws44) (gs := gs44) zz1 zz7 zz1 zz1 zz2 hG.three hG.fd))) ?_
  rintro ⟨a67, c67⟩
  refine vr (yr_move rfl rfl) ?_
  refine vr (yr_extract rfl rfl rfl (by nofun)) ?_
  refine vr (yr_extract rfl rfl rfl (by nofun)) ?_
  refine vr (yr_assign rfl rfl) ?_
  refine vr (yr_assign rfl rfl) ?_
  refine VL.nil (VE.then_wp (V.seq (V.region ?_)))
  refine vr (yr_move rfl rfl) ?_
  refine vr (yr_move rfl rfl) ?_
  refine VL.new (.inl rfl) rfl (by decide) (yn_callf rfl known23_Ft (.cons rfl (.cons rfl .nil)) (fun w hw => (c_b10X (m := (xss44.getD 0 []).length) zz1 hcb (by omega) zz2))) ?_
  rintro ⟨⟨⟨a72, c72⟩, xs72⟩, hl72, hq72⟩
  dsimp only at hl72 hq72
  have hfive := hG.five xs72 hq72 hl72
  refine vr (yr_assign rfl rfl) ?_
  refine VL.nil (VE.then_wp (V.seq (V.region ?_)))
  refine vq (yq_loadS rfl Try.underlying30 sz30_Ft rfl zz0 rfl rfl rfl) ?_
  refine vr (yr_move rfl rfl) ?_
  refine vq (yq_callf rfl known24_Ft (.cons rfl (.cons rfl (.cons rfl .nil))) (fun w hw => (c_ridgeE (r := 1056964608) (xss := xss44) (ws := ws44) (gs := gs44) (x := x9) zz1 zz7 zz1 zz1 zz1 zz2 hG.four))) ?_
  refine vr (yr_move rfl rfl) ?_
  refine vr (yr_extract rfl rfl rfl (by nofun)) ?_
  refine vr (yr_extract rfl rfl rfl (by nofun)) ?_
  refine vr (yr_assign rfl rfl) ?_
  refine vr (yr_assign rfl rfl) ?_
  refine VL.nil (VE.then_wp (V.seq (V.region ?_)))
  refine vq (yq_loadS rfl Try.underlying30 sz30_Ft rfl zz0 rfl rfl rfl) ?_
  refine vr (yr_move rfl rfl) ?_
  refine vq (yq_callf rfl known24_Ft (.cons rfl (.cons rfl (.cons rfl .nil))) (fun w hw => (c_ridgeE (r := 1056964608) (xss := xss44) (ws := ws44) (gs := gs44) (x := xs72) zz1 zz7 zz1 zz1 zz1 zz2 hfive.1))) ?_
  refine vr (yr_move rfl rfl) ?_
  refine vr (yr_extract rfl rfl rfl (by nofun)) ?_
  refine vr (yr_extract rfl rfl rfl (by nofun)) ?_
  refine vr (yr_assign rfl rfl) ?_
  refine vr (yr_assign rfl rfl) ?_
  refine VL.nil (VE.then_wp (V.seq (V.region ?_)))
  refine vr (yr_move rfl rfl) ?_
  refine VL.new1 (.inl rfl) rfl (by decide) (yn_callf rfl known25_Ft (.cons rfl .nil) (fun w hw => (c_cholE (xs := A9) zz1 zz2 hG.side hG.six hG.cd))) ?_
  rintro ⟨a87, c87⟩
  refine vr (yr_move rfl rfl) ?_
  refine vr (yr_extract rfl rfl rfl (by nofun)) ?_
  refine vr (yr_extract rfl rfl rfl (by nofun)) ?_
  refine vr (yr_assign rfl rfl) ?_
  refine vr (yr_assign rfl rfl) ?_
  refine VL.nil (VE.then_wp (V.seq (V.region ?_)))
  refine vr (yr_move rfl rfl) ?_
  refine vr (yr_move rfl rfl) ?_
  refine VL.new1 (.inl rfl) rfl (by decide) (yn_callf rfl known26_Ft (.cons rfl (.cons rfl .nil)) (fun w hw => (c_solveE (l := l9) (bs := B9) zz1 zz1 zz2 zz2 hG.seven hG.sd))) ?_
  rintro ⟨a93, c93⟩
  refine vr (yr_move rfl rfl) ?_
  refine vr (yr_extract rfl rfl rfl (by nofun)) ?_
  refine vr (yr_extract rfl rfl rfl (by nofun)) ?_
  refine vr (yr_assign rfl rfl) ?_
  refine vr (yr_assign rfl rfl) ?_
  refine VL.nil (VE.then_wp (V.seq (V.seq (V.region ?_))))
  refine vr (yr_move rfl rfl) ?_
  refine vr (yr_not rfl rfl) ?_
  refine vr (yr_move rfl rfl) ?_
  refine VX.split 98 _ rfl (fun h2 => ?_) (fun h2 => ?_)
  · skip
    replace h2 := bnot_t h2
    first | cases h2 | (simp at h2; done)
  replace h2 := bnot_f h2
  refine VL.r (.inr ⟨_, _, _, rfl, rfl, rfl⟩) rfl (by decide) (yr_move rfl rfl) ?_
  refine VL.r (.inr ⟨_, _, _, rfl, rfl, rfl⟩) rfl (by decide) (yr_not rfl rfl) ?_
  refine vr (yr_pick_f rfl rfl rfl) ?_
  refine vr (yr_move rfl rfl) ?_
  refine VX.split 102 _ rfl (fun h3 => ?_) (fun h3 => ?_)
  · skip
    replace h3 := bnot_t h3
    first | cases h3 | (simp at h3; done)
  replace h3 := bnot_f h3
  refine VL.r (.inr ⟨_, _, _, rfl, rfl, rfl⟩) rfl (by decide) (yr_move rfl rfl) ?_
  refine VL.r (.inr ⟨_, _, _, rfl, rfl, rfl⟩) rfl (by decide) (yr_not rfl rfl) ?_
  refine vr (yr_pick_f rfl rfl rfl) ?_
  refine vr (yr_move rfl rfl) ?_
  refine VX.split 106 _ rfl (fun h4 => ?_) (fun h4 => ?_)
  · skip
    replace h4 := bnot_t h4
    first | cases h4 | (simp at h4; done)
  replace h4 := bnot_f h4
  refine VL.r (.inr ⟨_, _, _, rfl, rfl, rfl⟩) rfl (by decide) (yr_move rfl rfl) ?_
  refine VL.r (.inr ⟨_, _, _, rfl, rfl, rfl⟩) rfl (by decide) (yr_not rfl rfl) ?_
  refine vr (yr_pick_f rfl rfl rfl) ?_
  refine vr (yr_move rfl rfl) ?_
  refine VX.split 110 _ rfl (fun h5 => ?_) (fun h5 => ?_)
  · skip
    replace h5 := bnot_t h5
    first | cases h5 | (simp at h5; done)
  replace h5 := bnot_f h5
  refine VL.r (.inr ⟨_, _, _, rfl, rfl, rfl⟩) rfl (by decide) (yr_move rfl rfl) ?_
  refine VL.r (.inr ⟨_, _, _, rfl, rfl, rfl⟩) rfl (by decide) (yr_not rfl rfl) ?_
  refine vr (yr_pick_f rfl rfl rfl) ?_
  refine vr (yr_move rfl rfl) ?_
  refine VX.split 114 _ rfl (fun h6 => ?_) (fun h6 => ?_)
  · skip
    replace h6 := bnot_t h6
    first | cases h6 | (simp at h6; done)
  replace h6 := bnot_f h6
  refine VL.r (.inr ⟨_, _, _, rfl, rfl, rfl⟩) rfl (by decide) (yr_move rfl rfl) ?_
  refine VL.r (.inr ⟨_, _, _, rfl, rfl, rfl⟩) rfl (by decide) (yr_not rfl rfl) ?_
  refine vr (yr_pick_f rfl rfl rfl) ?_
  refine vr (yr_move rfl rfl) ?_
  refine VX.split 118 _ rfl (fun h7 => ?_) (fun h7 => ?_)
  · skip
    replace h7 := bnot_t h7
    first | cases h7 | (simp at h7; done)
  replace h7 := bnot_f h7
  refine VL.r (.inr ⟨_, _, _, rfl, rfl, rfl⟩) rfl (by decide) (yr_move rfl rfl) ?_
  refine VL.r (.inr ⟨_, _, _, rfl, rfl, rfl⟩) rfl (by decide) (yr_not rfl rfl) ?_
  refine vr (yr_pick_f rfl rfl rfl) ?_
  refine vr (yr_move rfl rfl) ?_
  refine VX.split 122 _ rfl (fun h8 => ?_) (fun h8 => ?_)
  · skip
    replace h8 := bnot_t h8
    first | cases h8 | (simp at h8; done)
  replace h8 := bnot_f h8
  refine VL.q (.inr ⟨_, _, _, rfl, rfl, rfl⟩) rfl (by decide) (yq_loadS rfl Try.underlying30 sz30_Ft rfl zz0 rfl rfl rfl) ?_
  refine VL.q (.inr ⟨_, _, _, rfl, rfl, rfl⟩) rfl (by decide) (yq_callf rfl known27_Ft (.cons rfl .nil) (fun w hw => (c_implValid (xss := xss44) (ws := ws44) (gs := gs44) zz1 zz7 zz1 zz1 zz2))) ?_
  refine VL.r (.inr ⟨_, _, _, rfl, rfl, rfl⟩) rfl (by decide) (yr_not rfl rfl) ?_
  refine vr (yr_pick_f rfl rfl rfl) ?_
  refine vr (yr_move rfl rfl) ?_
  refine VX.split 127 _ rfl (fun h9 => ?_) (fun h9 => ?_)
  · skip
    replace h9 := bnot_t h9
    rw [hG.valid] at h9; cases h9
  replace h9 := bnot_f h9
  refine VL.r (.inr ⟨_, _, _, rfl, rfl, rfl⟩) rfl (by decide) (yr_move rfl rfl) ?_
  refine VL.r (.inr ⟨_, _, _, rfl, rfl, rfl⟩) rfl (by decide) (yr_move rfl rfl) ?_
  refine VL.q (.inr ⟨_, _, _, rfl, rfl, rfl⟩) rfl (by decide) (yq_callf rfl known28_Ft (.cons rfl (.cons rfl .nil)) (fun w hw => (c_b10List (xs := A9) zz1 zz1 hG.cA zz2))) ?_
  refine VL.r (.inr ⟨_, _, _, rfl, rfl, rfl⟩) rfl (by decide) (yr_not rfl rfl) ?_
  refine vr (yr_pick_f rfl rfl rfl) ?_
  refine vr (yr_move rfl rfl) ?_
  refine VX.split 133 _ rfl (fun h10 => ?_) (fun h10 => ?_)
  · skip
    replace h10 := bnot_t h10
    first | cases h10 | (simp at h10; done)
  replace h10 := bnot_f h10
  refine VL.r (.inr ⟨_, _, _, rfl, rfl, rfl⟩) rfl (by decide) (yr_move rfl rfl) ?_
  refine VL.r (.inr ⟨_, _, _, rfl, rfl, rfl⟩) rfl (by decide) (yr_move rfl rfl) ?_
  refine VL.q (.inr ⟨_, _, _, rfl, rfl, rfl⟩) rfl (by decide) (yq_callf rfl known28_Ft (.cons rfl (.cons rfl .nil)) (fun w hw => (c_b10List (xs := B9) zz1 zz1 hG.cB zz2))) ?_
  refine VL.r (.inr ⟨_, _, _, rfl, rfl, rfl⟩) rfl (by decide) (yr_not rfl rfl) ?_
  refine vr (yr_pick_f rfl rfl rfl) ?_
  refine vr (yr_move rfl rfl) ?_
  refine VX.split 139 _ rfl (fun h11 => ?_) (fun h11 => ?_)
  · skip
    replace h11 := bnot_t h11
    first | cases h11 | (simp at h11; done)
  replace h11 := bnot_f h11
  refine VL.r (.inr ⟨_, _, _, rfl, rfl, rfl⟩) rfl (by decide) (yr_move rfl rfl) ?_
  refine VL.r (.inr ⟨_, _, _, rfl, rfl, rfl⟩) rfl (by decide) (yr_len rfl Try.underlying23 rfl) ?_
  refine VL.r (.inr ⟨_, _, _, rfl, rfl, rfl⟩) rfl (by decide) (yr_move rfl rfl) ?_
  refine VL.r (.inr ⟨_, _, _, rfl, rfl, rfl⟩) rfl (by decide) (yr_move rfl rfl) ?_
  refine VL.r (.inr ⟨_, _, _, rfl, rfl, rfl⟩) rfl (by decide) (yr_mulN (xss44.getD 0 []).length (xss44.getD 0 []).length rfl rfl rfl rfl rfl zz2) ?_
  refine VL.r (.inr ⟨_, _, _, rfl, rfl, rfl⟩) rfl (by decide) (yr_icmp rfl (.inr (.inl rfl)) rfl rfl) ?_
  refine vr (yr_pick_f rfl rfl rfl) ?_
  refine vr (yr_move rfl rfl) ?_
  refine VX.split 147 _ rfl (fun h12 => ?_) (fun h12 => ?_)
  · skip
    replace h12 := ic_neq h12
    exfalso; have h8 := hG.la; (try dsimp only at h12); omega
  replace h12 := ic_neq' h12
  refine VL.r (.inr ⟨_, _, _, rfl, rfl, rfl⟩) rfl (by decide) (yr_move rfl rfl) ?_
  refine VL.r (.inr ⟨_, _, _, rfl, rfl, rfl⟩) rfl (by decide) (yr_len rfl Try.underlying23 rfl) ?_
  refine VL.r (.inr ⟨_, _, _, rfl, rfl, rfl⟩) rfl (by decide) (yr_move rfl rfl) ?_
  refine VL.r (.inr ⟨_, _, _, rfl, rfl, rfl⟩) rfl (by decide) (yr_icmp rfl (.inr (.inl rfl)) rfl rfl) ?_
  refine vr (yr_pick_f rfl rfl rfl) ?_
  refine vr (yr_move rfl rfl) ?_
  refine VX.split 153 _ rfl (fun h13 => ?_) (fun h13 => ?_)
  · skip
    replace h13 := ic_neq h13
    exfalso; have h8 := hG.lb; (try dsimp only at h13); omega
  replace h13 := ic_neq' h13
  refine VL.r (.inr ⟨_, _, _, rfl, rfl, rfl⟩) rfl (by decide) (yr_move rfl rfl) ?_
  refine VL.r (.inr ⟨_, _, _, rfl, rfl, rfl⟩) rfl (by decide) (yr_move rfl rfl) ?_
  refine VL.q (.inr ⟨_, _, _, rfl, rfl, rfl⟩) rfl (by decide) (yq_callf rfl known28_Ft (.cons rfl (.cons rfl .nil)) (fun w hw => (c_b10List (xs := x9) zz1 zz1 hG.cx zz2))) ?_
  refine VL.r (.inr ⟨_, _, _, rfl, rfl, rfl⟩) rfl (by decide) (yr_not rfl rfl) ?_
  refine vr (yr_pick_f rfl rfl rfl) ?_
  refine vr (yr_move rfl rfl) ?_
  refine VX.split 159 _ rfl (fun h14 => ?_) (fun h14 => ?_)
  · skip
    replace h14 := bnot_t h14
    first | cases h14 | (simp at h14; done)
  replace h14 := bnot_f h14
  refine VL.r (.inr ⟨_, _, _, rfl, rfl, rfl⟩) rfl (by decide) (yr_move rfl rfl) ?_
  refine VL.r (.inr ⟨_, _, _, rfl, rfl, rfl⟩) rfl (by decide) (yr_move rfl rfl) ?_
  refine VL.r (.inr ⟨_, _, _, rfl, rfl, rfl⟩) rfl (by decide) (yr_float (b := 1008981770) rfl (.inl rfl) rfl rfl) ?_
  refine VL.r (.inr ⟨_, _, _, rfl, rfl, rfl⟩) rfl (by decide) (yr_fcmp rfl (.inr (.inr (.inr (.inr (.inl rfl))))) rfl rfl) ?_
  refine vr (yr_pick_f rfl rfl rfl) ?_
  refine VL.nil (VE.then_wp ?_)
  refine V.cond rfl (fun h15 => ?_) (fun h15 => ?_)
  · skip
    rw [hfive.2] at h15; cases h15
  refine V.skip (VE.then_wp (V.seq (V.seq (V.region ?_))))
  refine vr (yr_assign (u := .int .i64 0) rfl rfl) ?_
  refine VL.nil (VE.then_wp (V.block ?_))
  refine V.loops (G := Nat) [(5, _), (6, _), (7, _), (20, _)] (fun (j : Nat) => j ≤ (xss44.getD 0 []).length) (fun (j : Nat) => [(24, .int .i64 (j : Int))]) (fun (j : Nat) => (xss44.getD 0 []).length - j) 0 (.cons rfl (.cons rfl (.cons rfl (.cons rfl .nil)))) (.cons rfl .nil) ?_ ?_
  · exact (Nat.zero_le _)
  rintro j hj9
  show V _ _ _ _ ([(24, .int .i64 (j : Int))] ++ [(5, _), (6, _), (7, _), (20, _)]) _ _
  refine V.seq (V.seq (V.region ?_))
  refine vr (yr_move rfl rfl) ?_
  refine vr (yr_move rfl rfl) ?_
  refine vr (yr_icmp rfl (.inr (.inr (.inl rfl))) rfl rfl) ?_
  refine VL.nil (VE.then_wp ?_)
  refine V.cond rfl (fun h16 => ?_) (fun h16 => ?_)
  · skip
    replace h16 := ic_lss h16
    (try dsimp only at h16)
    have hjN : j * (xss44.getD 0 []).length ≤ (xss44.getD 0 []).length * (xss44.getD 0 []).length := Nat.mul_le_mul_right _ (by omega)
    refine V.skip (VE.then_wp (V.seq (V.block (V.seq (V.region ?_)))))
    refine vr (yr_assign (u := .int .i64 0) rfl rfl) ?_
    refine VL.nil (VE.then_wp (V.block ?_))
    refine V.loops (G := Nat) [(5, _), (6, _), (7, _), (20, _), (24, _)] (fun (k : Nat) => k ≤ (xss44.getD 0 []).length) (fun (k : Nat) => [(25, .int .i64 (k : Int))]) (fun (k : Nat) => (xss44.getD 0 []).length - k) 0 (.cons rfl (.cons rfl (.cons rfl (.cons rfl (.cons rfl .nil))))) (.cons rfl .nil) ?_ ?_
    · exact (Nat.zero_le _)
    rintro k hk9
    show V _ _ _ _ ([(25, .int .i64 (k : Int))] ++ [(5, _), (6, _), (7, _), (20, _), (24, _)]) _ _
    refine V.seq (V.seq (V.region ?_))
    refine vr (yr_move rfl rfl) ?_
    refine vr (yr_move rfl rfl) ?_
    refine vr (yr_icmp rfl (.inr (.inr (.inl rfl))) rfl rfl) ?_
    refine VL.nil (VE.then_wp ?_)
    refine V.cond rfl (fun h17 => ?_) (fun h17 => ?_)
    · skip
      replace h17 := ic_lss h17
      (try dsimp only at h17)
      have hkN : k * (xss44.getD 0 []).length ≤ (xss44.getD 0 []).length * (xss44.getD 0 []).length := Nat.mul_le_mul_right _ (by omega)
      have hix1 : j * (xss44.getD 0 []).length + k < (xss44.getD 0 []).length * (xss44.getD 0 []).length := idx_lt (by omega) (by omega)
      have hix2 : k * (xss44.getD 0 []).length + j < (xss44.getD 0 []).length * (xss44.getD 0 []).length := idx_lt (by omega) (by omega)
      refine V.skip (VE.then_wp (V.seq (V.block (V.seq (V.region ?_)))))
      refine vr (yr_assign (u := .float .f64 0) rfl rfl) ?_
      refine VL.nil (VE.then_wp (V.seq (V.seq (V.region ?_))))
      refine vr (yr_assign (u := .int .i64 0) rfl rfl) ?_
      refine VL.nil (VE.then_wp (V.block ?_))
      refine V.loops (G := Nat) [(5, _), (6, _), (7, _), (20, _), (24, _), (25, _)] (fun (i : Nat) => i ≤ (xss44.getD 0 []).length) (fun (i : Nat) => [(26, .float .f64 (sumL l9 (xss44.getD 0 []).length j k i)), (27, .int .i64 (i : Int))]) (fun (i : Nat) => (xss44.getD 0 []).length - i) 0 (.cons rfl (.cons rfl (.cons rfl (.cons rfl (.cons rfl (.cons rfl .nil)))))) (.cons rfl (.cons rfl .nil)) ?_ ?_
      · exact (Nat.zero_le _)
      rintro i hi9
      show V _ _ _ _ ([(26, .float .f64 (sumL l9 (xss44.getD 0 []).length j k i)), (27, .int .i64 (i : Int))] ++ [(5, _), (6, _), (7, _), (20, _), (24, _), (25, _)]) _ _
      refine V.seq (V.seq (V.region ?_))
      refine vr (yr_move rfl rfl) ?_
      refine vr (yr_move rfl rfl) ?_
      refine vr (yr_icmp rfl (.inr (.inr (.inl rfl))) rfl rfl) ?_
      refine VL.nil (VE.then_wp ?_)
      refine V.cond rfl (fun h18 => ?_) (fun h18 => ?_)
      · skip
        replace h18 := ic_lss h18
        (try dsimp only at h18)
        have hix3 : j * (xss44.getD 0 []).length + i < (xss44.getD 0 []).length * (xss44.getD 0 []).length := idx_lt (by omega) (by omega)
        have hix4 : k * (xss44.getD 0 []).length + i < (xss44.getD 0 []).length * (xss44.getD 0 []).length := idx_lt (by omega) (by omega)
        refine V.skip (VE.then_wp (V.seq (V.block ?_)))
        refine V.draw [(0, 0), (1, 0), (2, 0), (3, 0), (4, 0), (5, 0), (6, 0), (7, 0), (8, 0), (9, 0), (10, 0), (11, 0), (12, 0), (13, 0), (14, 0), (15, 0), (16, 0), (17, 0), (18, 0), (19, 0), (20, 0), (21, 0)] mixed_Ft (by kernel_rfl) (by intro j o hj; simp at hj) ?_
        refine sr rfl (yr_move rfl rfl) ?_
        refine sr rfl (yr_move rfl rfl) ?_
        refine sr rfl (yr_move rfl rfl) ?_
        refine sr rfl (yr_move rfl rfl) ?_
        refine sr rfl (yr_mulN j (xss44.getD 0 []).length rfl rfl rfl (by first | rfl | omega) (by first | rfl | omega) zz2) ?_
        refine sr rfl (yr_move rfl rfl) ?_
        refine sr rfl (yr_int rfl rfl rfl (.inl ⟨rfl, wrap_in zz2⟩)) ?_
        refine sq rfl (yq_idx (k := ((j * (xss44.getD 0 []).length) + i)) rfl Try.underlying23 sz26_Ft rfl rfl zz0 zz3 zz11 zz4) ?_
        refine sq rfl (yq_loadF rfl fb26_Ft rfl zz0 zz4) ?_
        refine sr rfl (yr_fconv rfl Try.underlying26 Try.underlying51 (by decide) rfl (fover_up _)) ?_
        refine sr rfl (yr_move rfl rfl) ?_
        refine sr rfl (yr_move rfl rfl) ?_
        refine sr rfl (yr_move rfl rfl) ?_
        refine sr rfl (yr_mulN k (xss44.getD 0 []).length rfl rfl rfl (by first | rfl | omega) (by first | rfl | omega) zz2) ?_
        refine sr rfl (yr_move rfl rfl) ?_
        refine sr rfl (yr_int rfl rfl rfl (.inl ⟨rfl, wrap_in zz2⟩)) ?_
        refine sq rfl (yq_idx (k := ((k * (xss44.getD 0 []).length) + i)) rfl Try.underlying23 sz26_Ft rfl rfl zz0 zz3 zz11 zz4) ?_
        refine sq rfl (yq_loadF rfl fb26_Ft rfl zz0 zz4) ?_
        refine sr rfl (yr_fconv rfl Try.underlying26 Try.underlying51 (by decide) rfl (fover_up _)) ?_
        refine sr rfl (yr_float rfl (.inr (.inr (.inl rfl))) rfl rfl) ?_
        refine sr rfl (yr_float rfl (.inl rfl) rfl rfl) ?_
        refine sr rfl (yr_assign rfl rfl) ?_
        refine SW.done ?_
        refine VE.block_normal (VE.then_wp (V.region ?_))
        refine vr (yr_move rfl rfl) ?_
        refine vr (yr_int rfl rfl rfl (.inl ⟨rfl, wrap_in zz2⟩)) ?_
        refine vr (yr_assign rfl rfl) ?_
        refine VL.nil ?_
        refine VE.round (i + 1) ?_ ?_ ?_ ?_ ?_
        · exact (.cons rfl (.cons rfl .nil))
        · exact (.cons rfl (.cons rfl (.cons rfl (.cons rfl (.cons rfl (.cons rfl .nil))))))
        · exact (fun w hw => hw)
        · (try dsimp only); omega
        · (try dsimp only); omega
      replace h18 := ic_lss' h18
      (try dsimp only at h18)
      refine V.exit ?_
      refine VE.then_exit (VE.then_exit (VE.block_here (VE.then_wp (V.seq ?_))))
      refine V.draw [(0, 0), (1, 0), (2, 0), (3, 0), (4, 0), (5, 0), (6, 0), (7, 0), (8, 0), (9, 0), (10, 0), (11, 0), (12, 0), (13, 0), (14, 0), (15, 0), (16, 0), (17, 0), (18, 0), (19, 0), (20, 0), (21, 0), (22, 0), (23, 0), (24, 0), (25, 0), (26, 0), (27, 0), (28, 0), (29, 0), (30, 0), (31, 0), (32, 0), (33, 0), (34, 0), (35, 0), (36, 0), (37, 0), (38, 0), (39, 0), (40, 0), (41, 0), (42, 0), (43, 0), (44, 0), (45, 0), (46, 0)] mixed_Ft (by kernel_rfl) (by intro j o hj; simp at hj) ?_
      refine sr rfl (yr_move rfl rfl) ?_
      refine sr rfl (yr_move rfl rfl) ?_
      refine sr rfl (yr_move rfl rfl) ?_
      refine sr rfl (yr_mulN j (xss44.getD 0 []).length rfl rfl rfl (by first | rfl | omega) (by first | rfl | omega) zz2) ?_
      refine sr rfl (yr_move rfl rfl) ?_
      refine sr rfl (yr_int rfl rfl rfl (.inl ⟨rfl, wrap_in zz2⟩)) ?_
      refine sq rfl (yq_idx (k := ((j * (xss44.getD 0 []).length) + k)) rfl Try.underlying23 sz26_Ft rfl rfl zz0 zz3 zz11 zz4) ?_
      refine sq rfl (yq_loadF rfl fb26_Ft rfl zz0 zz4) ?_
      refine sr rfl (yr_move rfl rfl) ?_
      refine sr rfl (yr_move rfl rfl) ?_
      refine sr rfl (yr_move rfl rfl) ?_
      refine sr rfl (yr_mulN k (xss44.getD 0 []).length rfl rfl rfl (by first | rfl | omega) (by first | rfl | omega) zz2) ?_
      refine sr rfl (yr_move rfl rfl) ?_
      refine sr rfl (yr_int rfl rfl rfl (.inl ⟨rfl, wrap_in zz2⟩)) ?_
      refine sq rfl (yq_idx (k := ((k * (xss44.getD 0 []).length) + j)) rfl Try.underlying23 sz26_Ft rfl rfl zz0 zz3 zz11 zz4) ?_
      refine sq rfl (yq_loadF rfl fb26_Ft rfl zz0 zz4) ?_
      refine sr rfl (yr_fcmp rfl (.inr (.inl rfl)) rfl rfl) ?_
      refine sr rfl (yr_move rfl rfl) ?_
      refine SW.split lax_ve 218 _ rfl (fun h19 => ?_) (fun h19 => ?_)
      · skip
        rw [hG.sym j k (by omega) (by omega)] at h19; cases h19
      refine SW.r rfl (.inr ⟨_, _, _, rfl, rfl, rfl⟩) rfl (by decide) (yr_move rfl rfl) ?_
      refine SW.r rfl (.inr ⟨_, _, _, rfl, rfl, rfl⟩) rfl (by decide) (yr_move rfl rfl) ?_
      refine SW.r rfl (.inr ⟨_, _, _, rfl, rfl, rfl⟩) rfl (by decide) (yr_move rfl rfl) ?_
      refine SW.r rfl (.inr ⟨_, _, _, rfl, rfl, rfl⟩) rfl (by decide) (yr_move rfl rfl) ?_
      refine SW.r rfl (.inr ⟨_, _, _, rfl, rfl, rfl⟩) rfl (by decide) (yr_mulN j (xss44.getD 0 []).length rfl rfl rfl (by first | rfl | omega) (by first | rfl | omega) zz2) ?_
      refine SW.r rfl (.inr ⟨_, _, _, rfl, rfl, rfl⟩) rfl (by decide) (yr_move rfl rfl) ?_
      refine SW.r rfl (.inr ⟨_, _, _, rfl, rfl, rfl⟩) rfl (by decide) (yr_int rfl rfl rfl (.inl ⟨rfl, wrap_in zz2⟩)) ?_
      refine SW.q rfl (.inr ⟨_, _, _, rfl, rfl, rfl⟩) rfl (by decide) (yq_idx (k := ((j * (xss44.getD 0 []).length) + k)) rfl Try.underlying23 sz26_Ft rfl rfl zz0 zz3 zz11 zz4) ?_
      refine SW.q rfl (.inr ⟨_, _, _, rfl, rfl, rfl⟩) rfl (by decide) (yq_loadF rfl fb26_Ft rfl zz0 zz4) ?_
      refine SW.r rfl (.inr ⟨_, _, _, rfl, rfl, rfl⟩) rfl (by decide) (yr_fconv rfl Try.underlying26 Try.underlying51 (by decide) rfl (fover_up _)) ?_
      refine SW.q rfl (.inr ⟨_, _, _, rfl, rfl, rfl⟩) rfl (by decide) (yq_callf rfl known29_Ft (.cons rfl (.cons rfl .nil)) (fun w hw => c_b10GapF)) ?_
      refine SW.r rfl (.inr ⟨_, _, _, rfl, rfl, rfl⟩) rfl (by decide) (yr_fcmp (b := 4576918229304087675) rfl (.inr (.inr (.inr (.inr (.inl rfl))))) rfl rfl) ?_
      refine sr rfl (yr_pick_f rfl rfl rfl) ?_
      refine sr rfl (yr_move rfl rfl) ?_
      refine SW.split lax_ve 232 _ rfl (fun h20 => ?_) (fun h20 => ?_)
      · skip
        obtain rfl : i = (xss44.getD 0 []).length := by omega
        rw [hG.prod j k (by omega) (by omega)] at h20; cases h20
      refine SW.r rfl (.inr ⟨_, _, _, rfl, rfl, rfl⟩) rfl (by decide) (yr_move rfl rfl) ?_
      refine SW.r rfl (.inr ⟨_, _, _, rfl, rfl, rfl⟩) rfl (by decide) (yr_move rfl rfl) ?_
      refine SW.r rfl (.inr ⟨_, _, _, rfl, rfl, rfl⟩) rfl (by decide) (yr_icmp rfl (.inr (.inr (.inr (.inr (.inl rfl))))) rfl rfl) ?_
      refine SW.r rfl (.inr ⟨_, _, _, rfl, rfl, rfl⟩) rfl (by decide) (yr_move rfl rfl) ?_
      refine SW.split lax_ve 236 _ rfl (fun h21 => ?_) (fun h21 => ?_)
      · skip
        replace h21 := ic_gtr h21
        (try dsimp only at h21)
        refine SW.r rfl (.inr ⟨_, _, _, rfl, rfl, rfl⟩) rfl (by decide) (yr_move rfl rfl) ?_
        refine SW.r rfl (.inr ⟨_, _, _, rfl, rfl, rfl⟩) rfl (by decide) (yr_move rfl rfl) ?_
        refine SW.r rfl (.inr ⟨_, _, _, rfl, rfl, rfl⟩) rfl (by decide) (yr_move rfl rfl) ?_
        refine SW.r rfl (.inr ⟨_, _, _, rfl, rfl, rfl⟩) rfl (by decide) (yr_mulN j (xss44.getD 0 []).length rfl rfl rfl (by first | rfl | omega) (by first | rfl | omega) zz2) ?_
        refine SW.r rfl (.inr ⟨_, _, _, rfl, rfl, rfl⟩) rfl (by decide) (yr_move rfl rfl) ?_
        refine SW.r rfl (.inr ⟨_, _, _, rfl, rfl, rfl⟩) rfl (by decide) (yr_int rfl rfl rfl (.inl ⟨rfl, wrap_in zz2⟩)) ?_
        refine SW.q rfl (.inr ⟨_, _, _, rfl, rfl, rfl⟩) rfl (by decide) (yq_idx (k := ((j * (xss44.getD 0 []).length) + k)) rfl Try.underlying23 sz26_Ft rfl rfl zz0 zz3 zz11 zz4) ?_
        refine SW.q rfl (.inr ⟨_, _, _, rfl, rfl, rfl⟩) rfl (by decide) (yq_loadF rfl fb26_Ft rfl zz0 zz4) ?_
        refine SW.r rfl (.inr ⟨_, _, _, rfl, rfl, rfl⟩) rfl (by decide) (yr_fcmp (b := 0) rfl (.inr (.inl rfl)) rfl rfl) ?_
        refine SW.r rfl (.inr ⟨_, _, _, rfl, rfl, rfl⟩) rfl (by decide) (yr_pick_t rfl rfl rfl) ?_
        refine sr rfl (yr_pick_f rfl rfl rfl) ?_
        refine SW.done ?_
        refine VE.then_wp ?_
        refine V.cond rfl (fun h22 => ?_) (fun h22 => ?_)
        · skip
          first | (cases h22; done) | (rw [hG.tri j k (by omega) (by omega) (by omega)] at h22; cases h22)
        refine V.skip (VE.block_normal (VE.then_wp (V.region ?_)))
        refine vr (yr_move rfl rfl) ?_
        refine vr (yr_int rfl rfl rfl (.inl ⟨rfl, wrap_in zz2⟩)) ?_
        refine vr (yr_assign rfl rfl) ?_
        refine VL.nil ?_
        refine VE.round (k + 1) ?_ ?_ ?_ ?_ ?_
        · exact (.cons rfl .nil)
        · exact (.cons rfl (.cons rfl (.cons rfl (.cons rfl (.cons rfl .nil)))))
        · exact (fun w hw => hw)
        · (try dsimp only); omega
        · (try dsimp only); omega
      replace h21 := ic_gtr' h21
      (try dsimp only at h21)
      refine SW.no rfl (by decide) rfl rfl rfl rfl rfl (by decide) ?_
      refine SW.no rfl (by decide) rfl rfl rfl rfl rfl (by decide) ?_
      refine SW.no rfl (by decide) rfl rfl rfl rfl rfl (by decide) ?_
      refine SW.no rfl (by decide) rfl rfl rfl rfl rfl (by decide) ?_
      refine SW.no rfl (by decide) rfl rfl rfl rfl rfl (by decide) ?_
      refine SW.no rfl (by decide) rfl rfl rfl rfl rfl (by decide) ?_
      refine SW.no rfl (by decide) rfl rfl rfl rfl rfl (by decide) ?_
      refine SW.no rfl (by decide) rfl rfl rfl rfl rfl (by decide) ?_
      refine SW.no rfl (by decide) rfl rfl rfl rfl rfl (by decide) ?_
      refine SW.r rfl (.inr ⟨_, _, _, rfl, rfl, rfl⟩) rfl (by decide) (yr_pick_f (u := .bool false) rfl rfl rfl) ?_
      refine sr rfl (yr_pick_f rfl rfl rfl) ?_
      refine SW.done ?_
      refine VE.then_wp ?_
      refine V.condF rfl ?_
      refine V.skip (VE.block_normal (VE.then_wp (V.region ?_)))
      refine vr (yr_move rfl rfl) ?_
      refine vr (yr_int rfl rfl rfl (.inl ⟨rfl, wrap_in zz2⟩)) ?_
      refine vr (yr_assign rfl rfl) ?_
      refine VL.nil ?_
      refine VE.round (k + 1) ?_ ?_ ?_ ?_ ?_
      · exact (.cons rfl .nil)
      · exact (.cons rfl (.cons rfl (.cons rfl (.cons rfl (.cons rfl .nil)))))
      · exact (fun w hw => hw)
      · (try dsimp only); omega
      · (try dsimp only); omega
    replace h17 := ic_lss' h17
    (try dsimp only at h17)
    refine V.exit ?_
    refine VE.then_exit (VE.then_exit (VE.block_here (VE.block_normal (VE.then_wp (V.region ?_)))))
    refine vr (yr_move rfl rfl) ?_
    refine vr (yr_int rfl rfl rfl (.inl ⟨rfl, wrap_in zz2⟩)) ?_
    refine vr (yr_assign rfl rfl) ?_
    refine VL.nil ?_
    refine VE.round (j + 1) ?_ ?_ ?_ ?_ ?_
    · exact (.cons rfl .nil)
    · exact (.cons rfl (.cons rfl (.cons rfl (.cons rfl .nil))))
    · exact (fun w hw => hw)
    · (try dsimp only); omega
    · (try dsimp only); omega
  replace h16 := ic_lss' h16
  (try dsimp only at h16)
  refine V.exit ?_
  refine VE.then_exit (VE.then_exit (VE.block_here (VE.then_wp (V.seq (V.region ?_)))))
  refine vr (yr_fieldAddr rfl Try.underlying30 rfl rfl sz22_Ft (by decide) rfl) ?_
  refine vq (yq_load rfl fb22_Ft rfl zz0 rfl) ?_
  refine vr (yr_len rfl Try.underlying22 rfl) ?_
  refine vr (yr_addN (xss44.length + 7) rfl rfl rfl (by push_cast; rfl) zz2) ?_
  refine vr (yr_quoN (xss44.length + 7) 8 rfl rfl rfl (by rfl) (by rfl) (by decide) zz2) ?_
  refine vr (yr_assign rfl rfl) ?_
  refine VL.nil (VE.then_wp (V.seq (V.region ?_)))
  refine vr (yr_move rfl rfl) ?_
  refine vr (yr_move rfl rfl) ?_
  refine vr (yr_mulN (xss44.getD 0 []).length (xss44.getD 0 []).length rfl rfl rfl rfl rfl zz2) ?_
  refine VL.new1 (.inl rfl) rfl (by decide) (yn_makeSlicez 1 rfl rfl Try.underlying53 elt51_Ft rfl rfl rfl zz2 zz2) ?_
  intro b256
  refine vr (yr_assign rfl rfl) ?_
  refine VL.nil (VE.then_wp (V.seq (V.seq (V.region ?_))))
  refine vr (yr_assign (u := .int .i64 0) rfl rfl) ?_
  refine VL.nil (VE.then_wp (V.block ?_))
  refine V.loopc (G := Nat) [(5, _), (6, _), (7, _), (28, _), (29, _)] (fun (k : Nat) => k ≤ ((xss44.length + 7) / 8)) (fun (k : Nat) => (⟨some ⟨b256, 0, none⟩, fd (sBl xss44 gs44 (xss44.getD 0 []).length k), ((xss44.getD 0 []).length * (xss44.getD 0 []).length) * 1, 51⟩ :: ⟨some ⟨b5, 0, none⟩, [.slice a44 xss44.length c44, .slice p44 ws44.length q44, .slice r44 gs44.length s44], 3, 30⟩ :: ⟨r44, fl gs44, s44 * 1, 26⟩ :: ⟨p44, fl ws44, q44 * 1, 26⟩ :: ⟨a44, hd f44 xss44, c44 * 1, 23⟩ :: ⟨a52, fl A9, c52 * 1, 26⟩ :: (rents 26 f44 xss44 ++ []))) (fun (k : Nat) => [(30, .int .i64 (k : Int))]) (fun (k : Nat) => ((xss44.length + 7) / 8) - k) 0 (.cons rfl (.cons rfl (.cons rfl (.cons rfl (.cons rfl .nil))))) (.cons rfl .nil) ?_ ?_ ?_
  · exact (fun w hw => by rw [fd_zeros, ← sBl_0] at hw; exact hw.pick zz6)
  · exact (Nat.zero_le _)
  rintro k hk9
  show V _ _ _ (⟨some ⟨b256, 0, none⟩, fd (sBl xss44 gs44 (xss44.getD 0 []).length k), ((xss44.getD 0 []).length * (xss44.getD 0 []).length) * 1, 51⟩ :: ⟨some ⟨b5, 0, none⟩, [.slice a44 xss44.length c44, .slice p44 ws44.length q44, .slice r44 gs44.length s44], 3, 30⟩ :: ⟨r44, fl gs44, s44 * 1, 26⟩ :: ⟨p44, fl ws44, q44 * 1, 26⟩ :: ⟨a44, hd f44 xss44, c44 * 1, 23⟩ :: ⟨a52, fl A9, c52 * 1, 26⟩ :: (rents 26 f44 xss44 ++ [])) ([(30, .int .i64 (k : Int))] ++ [(5, _), (6, _), (7, _), (28, _), (29, _)]) _ _
  refine V.seq (V.seq (V.region ?_))
  refine vr (yr_move rfl rfl) ?_
  refine vr (yr_move rfl rfl) ?_
  refine vr (yr_icmp rfl (.inr (.inr (.inl rfl))) rfl rfl) ?_
  refine VL.nil (VE.then_wp ?_)
  refine V.cond rfl (fun h24 => ?_) (fun h24 => ?_)
  · skip
    replace h24 := ic_lss h24
    (try dsimp only at h24)
    refine V.skip (VE.then_wp (V.seq (V.block (V.seq (V.region ?_)))))
    refine vq (yq_loadS rfl Try.underlying30 sz30_Ft rfl zz0 rfl rfl rfl) ?_
    refine vr (yr_move rfl rfl) ?_
    refine VL.new (.inl rfl) rfl (by decide) (yn_callf rfl known30_Ft (.cons rfl (.cons rfl .nil)) (fun w hw => (c_blockE (xss := xss44) (ws := ws44) (gs := gs44) (k := k) zz1 zz7 zz1 zz1 zz2 (block_yes hG.valid (decide_eq_true (by unfold blocksN; omega)))))) ?_
    rintro ⟨⟨a265, c265⟩, ⟨d265, e265⟩⟩
    refine vr (yr_move rfl rfl) ?_
    refine vr (yr_extract rfl rfl rfl (by nofun)) ?_
    refine vr (yr_extract rfl rfl rfl (by nofun)) ?_
    refine vr (yr_extract rfl rfl rfl (by nofun)) ?_
    refine vr (yr_assign rfl rfl) ?_
    refine vr (yr_assign rfl rfl) ?_
    refine vr (yr_assign rfl rfl) ?_
    refine VL.nil (VE.then_wp (V.seq (V.seq (V.region ?_))))
    refine vr (yr_move rfl rfl) ?_
    refine vr (yr_not rfl rfl) ?_
    refine VL.nil (VE.then_wp ?_)
    refine V.cond rfl (fun h25 => ?_) (fun h25 => ?_)
    · skip
      replace h25 := bnot_t h25
      first | cases h25 | (simp at h25; done)
    replace h25 := bnot_f h25
    refine V.skip (VE.then_wp (V.seq (V.region ?_)))
    refine vr (yr_move rfl rfl) ?_
    refine vr (yr_len rfl Try.underlying23 rfl) ?_
    refine vr (yr_move (u := .int .i64 0) rfl rfl) ?_
    refine VL.nil (VE.then_wp (V.block ?_))
    refine V.loopc (G := Nat) [(5, _), (6, _), (7, _), (28, _), (29, _), (30, _), (31, _), (272, _)] (fun (i : Nat) => i ≤ (xss44.getD 0 []).length * (xss44.getD 0 []).length) (fun (i : Nat) => (⟨some ⟨b256, 0, none⟩, fd (sBi xss44 gs44 (xss44.getD 0 []).length k i), ((xss44.getD 0 []).length * (xss44.getD 0 []).length) * 1, 51⟩ :: ⟨a265, fl (blockA xss44 gs44 (k * 8) (min 8 (xss44.length - k * 8)) (xss44.getD 0 []).length), c265 * 1, 26⟩ :: ⟨some ⟨b5, 0, none⟩, [.slice a44 xss44.length c44, .slice p44 ws44.length q44, .slice r44 gs44.length s44], 3, 30⟩ :: ⟨r44, fl gs44, s44 * 1, 26⟩ :: ⟨p44, fl ws44, q44 * 1, 26⟩ :: ⟨a44, hd f44 xss44, c44 * 1, 23⟩ :: ⟨a52, fl A9, c52 * 1, 26⟩ :: (rents 26 f44 xss44 ++ []))) (fun (i : Nat) => [(273, .int .i64 (i : Int))]) (fun (i : Nat) => (xss44.getD 0 []).length * (xss44.getD 0 []).length - i) 0 (.cons rfl (.cons rfl (.cons rfl (.cons rfl (.cons rfl (.cons rfl (.cons rfl (.cons rfl .nil)))))))) (.cons rfl .nil) ?_ ?_ ?_
    · exact (fun w hw => by rw [← sBi_0] at hw; exact hw.pick (by apply Pick.cons1; (· repeat (first | exact Rem.here | exact Rem.all | exact Rem.hereS | apply Rem.there | apply Rem.thereS)); apply Pick.cons1; (· repeat (first | exact Rem.here | exact Rem.all | exact Rem.hereS | apply Rem.there | apply Rem.thereS)); apply Pick.cons1; (· repeat (first | exact Rem.here | exact Rem.all | exact Rem.hereS | apply Rem.there | apply Rem.thereS)); apply Pick.cons1; (· repeat (first | exact Rem.here | exact Rem.all | exact Rem.hereS | apply Rem.there | apply Rem.thereS)); apply Pick.cons1; (· repeat (first | exact Rem.here | exact Rem.all | exact Rem.hereS | apply Rem.there | apply Rem.thereS)); apply Pick.cons1; (· repeat (first | exact Rem.here | exact Rem.all | exact Rem.hereS | apply Rem.there | apply Rem.thereS)); apply Pick.cons1; (· repeat (first | exact Rem.here | exact Rem.all | exact Rem.hereS | apply Rem.there | apply Rem.thereS)); apply Pick.app1; (· repeat (first | exact Rem.here | exact Rem.all | exact Rem.hereS | apply Rem.there | apply Rem.thereS)); exact Pick.nil))
    · exact (Nat.zero_le _)
    rintro i hi9
    show V _ _ _ (⟨some ⟨b256, 0, none⟩, fd (sBi xss44 gs44 (xss44.getD 0 []).length k i), ((xss44.getD 0 []).length * (xss44.getD 0 []).length) * 1, 51⟩ :: ⟨a265, fl (blockA xss44 gs44 (k * 8) (min 8 (xss44.length - k * 8)) (xss44.getD 0 []).length), c265 * 1, 26⟩ :: ⟨some ⟨b5, 0, none⟩, [.slice a44 xss44.length c44, .slice p44 ws44.length q44, .slice r44 gs44.length s44], 3, 30⟩ :: ⟨r44, fl gs44, s44 * 1, 26⟩ :: ⟨p44, fl ws44, q44 * 1, 26⟩ :: ⟨a44, hd f44 xss44, c44 * 1, 23⟩ :: ⟨a52, fl A9, c52 * 1, 26⟩ :: (rents 26 f44 xss44 ++ [])) ([(273, .int .i64 (i : Int))] ++ [(5, _), (6, _), (7, _), (28, _), (29, _), (30, _), (31, _), (272, _)]) _ _
    refine V.seq (V.region ?_)
    refine vr (yr_icmp rfl (.inr (.inr (.inl rfl))) rfl rfl) ?_
    refine VL.nil (VE.then_wp (V.seq ?_))
    refine V.cond rfl (fun h26 => ?_) (fun h26 => ?_)
    · skip
      replace h26 := ic_lss h26
      (try dsimp only at h26)
      refine V.skip (VE.then_wp (V.seq (V.block (V.seq (V.region ?_)))))
      refine vr (yr_move rfl rfl) ?_
      refine vr (yr_assign rfl rfl) ?_
      refine VL.nil (VE.then_wp ?_)
      refine V.draw [(0, 0), (1, 0), (2, 0), (3, 0), (4, 0), (5, 0), (6, 0), (7, 0), (8, 0), (9, 0), (10, 0), (11, 3)] mixed_Ft (by kernel_rfl) (by intro j o hj; simp at hj) ?_
      refine sr rfl (yr_move rfl rfl) ?_
      refine sr rfl (yr_move rfl rfl) ?_
      refine sq rfl (yq_idx (k := i) rfl Try.underlying53 sz51_Ft rfl rfl zz0 zz3 zz11 zz4) ?_
      refine sq rfl (yq_load (u := .float .f64 ((sBi xss44 gs44 (xss44.getD 0 []).length k i).getD i 0)) rfl fb51_Ft rfl zz0 (fd_get (by rw [sBi_length]; omega))) ?_
      refine sr rfl (yr_move rfl rfl) ?_
      refine sr rfl (yr_move rfl rfl) ?_
      refine sq rfl (yq_idx (k := i) rfl Try.underlying23 sz26_Ft rfl rfl zz0 zz3 zz11 zz4) ?_
      refine sq rfl (yq_loadF rfl fb26_Ft rfl zz0 zz4) ?_
      refine sr rfl (yr_fconv rfl Try.underlying26 Try.underlying51 (by decide) rfl (fover_up _)) ?_
      refine sr rfl (yr_float rfl (.inl rfl) rfl rfl) ?_
      refine sq rfl (yq_idx (k := i) rfl Try.underlying53 sz51_Ft rfl rfl zz0 zz3 zz11 zz4) ?_
      refine SW.s rfl (.inl rfl) rfl (yc_store rfl sz51_Ft rfl rfl zz8 (.inl ⟨rfl, rfl⟩) rfl (by rw [fd_length, sBi_length]; omega) (by decide) (fd_set _ _ _)) ?_
      rintro ⟨⟩
      refine SW.done ?_
      refine VE.block_normal (VE.then_wp (V.region ?_))
      refine vr (yr_int rfl rfl rfl (.inl ⟨rfl, wrap_in zz2⟩)) ?_
      refine vr (yr_move rfl rfl) ?_
      refine VL.nil ?_
      refine VE.round (i + 1) ?_ ?_ ?_ ?_ ?_
      · exact (.cons rfl .nil)
      · exact (.cons rfl (.cons rfl (.cons rfl (.cons rfl (.cons rfl (.cons rfl (.cons rfl (.cons rfl .nil))))))))
      · exact (fun w hw => by rw [sBi_step (by omega)] at hw; exact hw.pick (by apply Pick.cons1; (· repeat (first | exact Rem.here | exact Rem.all | exact Rem.hereS | apply Rem.there | apply Rem.thereS)); apply Pick.cons1; (· repeat (first | exact Rem.here | exact Rem.all | exact Rem.hereS | apply Rem.there | apply Rem.thereS)); apply Pick.cons1; (· repeat (first | exact Rem.here | exact Rem.all | exact Rem.hereS | apply Rem.there | apply Rem.thereS)); apply Pick.cons1; (· repeat (first | exact Rem.here | exact Rem.all | exact Rem.hereS | apply Rem.there | apply Rem.thereS)); apply Pick.cons1; (· repeat (first | exact Rem.here | exact Rem.all | exact Rem.hereS | apply Rem.there | apply Rem.thereS)); apply Pick.cons1; (· repeat (first | exact Rem.here | exact Rem.all | exact Rem.hereS | apply Rem.there | apply Rem.thereS)); apply Pick.cons1; (· repeat (first | exact Rem.here | exact Rem.all | exact Rem.hereS | apply Rem.there | apply Rem.thereS)); apply Pick.app1; (· repeat (first | exact Rem.here | exact Rem.all | exact Rem.hereS | apply Rem.there | apply Rem.thereS)); exact Pick.nil))
      · (try dsimp only); omega
      · (try dsimp only); omega
    replace h26 := ic_lss' h26
    (try dsimp only at h26)
    refine V.exit ?_
    refine VE.then_exit (VE.then_exit (VE.block_here (VE.block_normal (VE.then_wp (V.region ?_)))))
    refine vr (yr_move rfl rfl) ?_
    refine vr (yr_int rfl rfl rfl (.inl ⟨rfl, wrap_in zz2⟩)) ?_
    refine vr (yr_assign rfl rfl) ?_
    refine VL.nil ?_
    refine VE.round (k + 1) ?_ ?_ ?_ ?_ ?_
    · exact (.cons rfl .nil)
    · exact (.cons rfl (.cons rfl (.cons rfl (.cons rfl (.cons rfl .nil)))))
    · exact (fun w hw => by rw [sBi_n (by omega)] at hw; exact hw.pick zz6)
    · (try dsimp only); omega
    · (try dsimp only); omega
  replace h24 := ic_lss' h24
  (try dsimp only at h24)
  refine V.exit ?_
  refine VE.then_exit (VE.then_exit (VE.block_here (VE.then_wp (V.seq (V.region ?_)))))
  refine vq (yq_loadS rfl Try.underlying30 sz30_Ft rfl zz0 rfl rfl rfl) ?_
  refine vr (yr_move rfl rfl) ?_
  refine VL.new (.inl rfl) rfl (by decide) (yn_callf rfl known30_Ft (.cons rfl (.cons rfl .nil)) (fun w hw => (c_blockN (xss := xss44) (ws := ws44) (gs := gs44) (k := ((xss44.length + 7) / 8)) zz1 zz7 zz1 zz1 zz2 (block_no2 (decide_eq_false (by unfold blocksN; omega)))))) ?_
  rintro ⟨⟨a291, c291⟩, ⟨d291, e291⟩⟩
  refine vr (yr_move rfl rfl) ?_
  refine vr (yr_extract rfl rfl rfl (by nofun)) ?_
  refine vr (yr_extract rfl rfl rfl (by nofun)) ?_
  refine vr (yr_extract rfl rfl rfl (by nofun)) ?_
  refine vr (yr_assign rfl rfl) ?_
  refine vr (yr_assign rfl rfl) ?_
  refine vr (yr_assign rfl rfl) ?_
  refine VL.nil (VE.then_wp (V.seq (V.seq (V.region ?_))))
  refine vr (yr_move rfl rfl) ?_
  refine vr (yr_len rfl Try.underlying53 rfl) ?_
  refine vr (yr_move (u := .int .i64 0) rfl rfl) ?_
  refine VL.nil (VE.then_wp (V.block ?_))
  refine V.loopc (G := Nat) [(6, _), (7, _), (29, _), (37, _), (296, _)] (fun (i : Nat) => i ≤ (xss44.getD 0 []).length * (xss44.getD 0 []).length) (fun (i : Nat) => (⟨some ⟨b256, 0, none⟩, fd (sBl xss44 gs44 (xss44.getD 0 []).length ((xss44.length + 7) / 8)), ((xss44.getD 0 []).length * (xss44.getD 0 []).length) * 1, 51⟩ :: ⟨some ⟨b5, 0, none⟩, [.slice a44 xss44.length c44, .slice p44 ws44.length q44, .slice r44 gs44.length s44], 3, 30⟩ :: ⟨r44, fl gs44, s44 * 1, 26⟩ :: ⟨p44, fl ws44, q44 * 1, 26⟩ :: ⟨a44, hd f44 xss44, c44 * 1, 23⟩ :: ⟨a52, fl A9, c52 * 1, 26⟩ :: (rents 26 f44 xss44 ++ []))) (fun (i : Nat) => [(297, .int .i64 (i : Int))]) (fun (i : Nat) => (xss44.getD 0 []).length * (xss44.getD 0 []).length - i) 0 (.cons rfl (.cons rfl (.cons rfl (.cons rfl (.cons rfl .nil))))) (.cons rfl .nil) ?_ ?_ ?_
  · exact (fun w hw => by rw [show k = ((xss44.length + 7) / 8) by omega] at hw; exact hw.pick zz6)
  · exact (Nat.zero_le _)
  rintro i hi9
  show V _ _ _ (⟨some ⟨b256, 0, none⟩, fd (sBl xss44 gs44 (xss44.getD 0 []).length ((xss44.length + 7) / 8)), ((xss44.getD 0 []).length * (xss44.getD 0 []).length) * 1, 51⟩ :: ⟨some ⟨b5, 0, none⟩, [.slice a44 xss44.length c44, .slice p44 ws44.length q44, .slice r44 gs44.length s44], 3, 30⟩ :: ⟨r44, fl gs44, s44 * 1, 26⟩ :: ⟨p44, fl ws44, q44 * 1, 26⟩ :: ⟨a44, hd f44 xss44, c44 * 1, 23⟩ :: ⟨a52, fl A9, c52 * 1, 26⟩ :: (rents 26 f44 xss44 ++ [])) ([(297, .int .i64 (i : Int))] ++ [(6, _), (7, _), (29, _), (37, _), (296, _)]) _ _
  refine V.seq (V.region ?_)
  refine vr (yr_icmp rfl (.inr (.inr (.inl rfl))) rfl rfl) ?_
  refine VL.nil (VE.then_wp (V.seq ?_))
  refine V.cond rfl (fun h27 => ?_) (fun h27 => ?_)
  · skip
    replace h27 := ic_lss h27
    (try dsimp only at h27)
    refine V.skip (VE.then_wp (V.seq (V.block (V.seq (V.region ?_)))))
    refine vr (yr_move rfl rfl) ?_
    refine vr (yr_assign rfl rfl) ?_
    refine VL.nil (VE.then_wp (V.seq (V.region ?_)))
    refine vr (yr_assign (u := .float .f64 0) rfl rfl) ?_
    refine VL.nil (VE.then_wp (V.seq (V.seq (V.region ?_))))
    refine vr (yr_move rfl rfl) ?_
    refine vr (yr_move rfl rfl) ?_
    refine vr (yr_addN ((xss44.getD 0 []).length + 1) rfl rfl rfl (by push_cast; rfl) zz2) ?_
    refine vr (yr_remN i ((xss44.getD 0 []).length + 1) rfl rfl rfl rfl rfl (by omega)) ?_
    refine vr (yr_icmp rfl (.inl rfl) rfl rfl) ?_
    refine VL.nil (VE.then_wp ?_)
    refine V.cond rfl (fun h28 => ?_) (fun h28 => ?_)
    · skip
      replace h28 := ic_eql h28
      (try dsimp only at h28)
      refine V.region ?_
      refine vr (yr_assign (u := .float .f64 4602678819172646912) rfl rfl) ?_
      refine VL.nil (VE.then_wp (V.seq ?_))
      refine V.draw [(0, 0), (1, 0), (2, 0), (3, 0), (4, 0), (5, 0), (6, 0), (7, 0), (8, 0), (9, 0), (10, 0), (11, 0), (12, 0)] mixed_Ft (by kernel_rfl) (by intro j o hj; simp at hj) ?_
      refine sr rfl (yr_move rfl rfl) ?_
      refine sr rfl (yr_move rfl rfl) ?_
      refine sq rfl (yq_idx (k := i) rfl Try.underlying53 sz51_Ft rfl rfl zz0 zz3 zz11 zz4) ?_
      refine sq rfl (yq_load (u := .float .f64 (sumB xss44 gs44 (xss44.getD 0 []).length i ((xss44.length + 7) / 8))) rfl fb51_Ft rfl zz0 (by rw [fd_get (by rw [sBl_length]; omega), sBl_get (by omega)])) ?_
      refine sr rfl (yr_move rfl rfl) ?_
      refine sr rfl (yr_float rfl (.inl rfl) rfl rfl) ?_
      refine sr rfl (yr_move rfl rfl) ?_
      refine sr rfl (yr_move rfl rfl) ?_
      refine sq rfl (yq_idx (k := i) rfl Try.underlying23 sz26_Ft rfl rfl zz0 zz3 zz11 zz4) ?_
      refine sq rfl (yq_loadF rfl fb26_Ft rfl zz0 zz4) ?_
      refine sr rfl (yr_fconv rfl Try.underlying26 Try.underlying51 (by decide) rfl (fover_up _)) ?_
      refine sq rfl (yq_callf rfl known29_Ft (.cons rfl (.cons rfl .nil)) (fun w hw => c_b10GapF)) ?_
      refine sr rfl (yr_fcmp (b := 4562254508917369340) rfl (.inr (.inr (.inr (.inr (.inl rfl))))) rfl rfl) ?_
      refine SW.done ?_
      refine VE.then_wp ?_
      refine V.cond rfl (fun h29 => ?_) (fun h29 => ?_)
      · skip
        first | exact absurd h29 (Bool.eq_false_iff.1 (hG.sums i (by omega) _ (by rw [if_pos (by omega)]))) | exact absurd h29 (Bool.eq_false_iff.1 (hG.sums i (by omega) _ (by rw [if_neg (by omega)])))
      refine V.skip (VE.block_normal (VE.then_wp (V.region ?_)))
      refine vr (yr_int rfl rfl rfl (.inl ⟨rfl, wrap_in zz2⟩)) ?_
      refine vr (yr_move rfl rfl) ?_
      refine VL.nil ?_
      refine VE.round (i + 1) ?_ ?_ ?_ ?_ ?_
      · exact (.cons rfl .nil)
      · exact (.cons rfl (.cons rfl (.cons rfl (.cons rfl (.cons rfl .nil)))))
      · exact (fun w hw => hw.pick zz6)
      · (try dsimp only); omega
      · (try dsimp only); omega
    replace h28 := ic_eql' h28
    (try dsimp only at h28)
    refine V.skip (VE.then_wp (V.seq ?_))
    refine V.draw [(0, 0), (1, 0), (2, 0), (3, 0), (4, 0), (5, 0), (6, 0), (7, 0), (8, 0), (9, 0), (10, 0), (11, 0), (12, 0)] mixed_Ft (by kernel_rfl) (by intro j o hj; simp at hj) ?_
    refine sr rfl (yr_move rfl rfl) ?_
    refine sr rfl (yr_move rfl rfl) ?_
    refine sq rfl (yq_idx (k := i) rfl Try.underlying53 sz51_Ft rfl rfl zz0 zz3 zz11 zz4) ?_
    refine sq rfl (yq_load (u := .float .f64 (sumB xss44 gs44 (xss44.getD 0 []).length i ((xss44.length + 7) / 8))) rfl fb51_Ft rfl zz0 (by rw [fd_get (by rw [sBl_length]; omega), sBl_get (by omega)])) ?_
    refine sr rfl (yr_move rfl rfl) ?_
    refine sr rfl (yr_float rfl (.inl rfl) rfl rfl) ?_
    refine sr rfl (yr_move rfl rfl) ?_
    refine sr rfl (yr_move rfl rfl) ?_
    refine sq rfl (yq_idx (k := i) rfl Try.underlying23 sz26_Ft rfl rfl zz0 zz3 zz11 zz4) ?_
    refine sq rfl (yq_loadF rfl fb26_Ft rfl zz0 zz4) ?_
    refine sr rfl (yr_fconv rfl Try.underlying26 Try.underlying51 (by decide) rfl (fover_up _)) ?_
    refine sq rfl (yq_callf rfl known29_Ft (.cons rfl (.cons rfl .nil)) (fun w hw => c_b10GapF)) ?_
    refine sr rfl (yr_fcmp (b := 4562254508917369340) rfl (.inr (.inr (.inr (.inr (.inl rfl))))) rfl rfl) ?_
    refine SW.done ?_
    refine VE.then_wp ?_
    refine V.cond rfl (fun h30 => ?_) (fun h30 => ?_)
    · skip
      first | exact absurd h30 (Bool.eq_false_iff.1 (hG.sums i (by omega) _ (by rw [if_pos (by omega)]))) | exact absurd h30 (Bool.eq_false_iff.1 (hG.sums i (by omega) _ (by rw [if_neg (by omega)])))
    refine V.skip (VE.block_normal (VE.then_wp (V.region ?_)))
    refine vr (yr_int rfl rfl rfl (.inl ⟨rfl, wrap_in zz2⟩)) ?_
    refine vr (yr_move rfl rfl) ?_
    refine VL.nil ?_
    refine VE.round (i + 1) ?_ ?_ ?_ ?_ ?_
    · exact (.cons rfl .nil)
    · exact (.cons rfl (.cons rfl (.cons rfl (.cons rfl (.cons rfl .nil)))))
    · exact (fun w hw => hw.pick zz6)
    · (try dsimp only); omega
    · (try dsimp only); omega
  replace h27 := ic_lss' h27
  (try dsimp only at h27)
  refine V.exit ?_
  refine VE.then_exit (VE.then_exit (VE.block_here (VE.then_wp (V.seq (V.region ?_)))))
  refine vr (yr_move rfl rfl) ?_
  refine vr (yr_not rfl rfl) ?_
  refine vr (yr_assign rfl rfl) ?_
  refine VL.nil (VE.then_wp (V.ret ?_))
  refine ret1 rfl rfl (fun w1 hw => ?_)
  exact ⟨rfl, hw.below⟩
end Go.Proofs.Ytgeflnjjppgooaa.Q

namespace Go.Proofs.Ytgeflnjjppgooaa.Y
open Go Go.Conc Go.RowKit Go.Proofs.Ytgeflnjjppgooaa Go.Proofs.Ytgeflnjjppgooaa.Q
open Go.ConcR (KK wgBlock WgAt stA smA rd wr mk Payload DC0)
open Go.ConcN (WgLive PayAt Has RW DWs AtR0 WSit WD upd upd_same upd_ne)
/-- All views: the starter's has number 0, worker i's number i + 1. -/
structure VI (Bad : Nat → Prop) (B0 j : Nat) (V : Nat → World) (w : World) : Prop where
  view : ∀ x, x ≤ j → View (V x) w
  ex : ∀ x y, x ≤ j → y ≤ j → x ≠ y → ∀ b, Liv (V x) b → ¬ Rdb (V y) b
  bad : ∀ x, x ≤ j → ∀ b, Bad b → ¬ Rdb (V x) b
  low : ∀ x, x ≤ j → ∀ b, b < B0 → ¬ Liv (V x) b
section
variable {Bad : Nat → Prop} {B0 j : Nat} {V : Nat → World} {w w' : World}
theorem VI.step (h : VI Bad B0 j V w) {x : Nat} (hx : x ≤ j) {v' : World} (hc : Chg (V x) v' w w') (hb : ∀ b, Bad b → b < w.heap.size) (h0 : B0 ≤ w.heap.size) :
    VI Bad B0 j (fun y => if y = x then v' else up (V y) w') w' := by
  have hv := h.view x hx
  have hs : (V x).heap.size = w.heap.size := hv.size
  have pick : ∀ (Q : World → Prop) y, Q v' → Q (up (V y) w') → Q (if y = x then v' else up (V y) w') := fun Q y h1 h2 => by split <;> assumption
  refine ⟨fun y hy => ?_, fun y z hy hz hne b hl hr => ?_, fun y hy b hbb hr => ?_, fun y hy b hlt hl => ?_⟩
  · by_cases e : y = x
    · simp only [if_pos e]; exact hc.view
    · simp only [if_neg e]
      exact view_other hc hv (h.view y hy) (h.ex x y hx hy (Ne.symm e))
  · by_cases e : y = x
    · subst e
      simp only at hl
      simp only [if_neg (Ne.symm hne), rdb_up] at hr
      have hlt := rdb_lt hr
      have hz' := (h.view z hz).size
      exact h.ex y z hy hz hne b (hc.liv (by omega) hl) hr
    · simp only [if_neg e, liv_up] at hl
      have hlt := liv_lt hl
      have hy' := (h.view y hy).size
      by_cases e2 : z = x
      · subst e2
        simp only at hr
        exact h.ex y z hy hz hne b hl (hc.rdb (by omega) hr)
      · simp only [if_neg e2, rdb_up] at hr
        exact h.ex y z hy hz hne b hl hr
  · by_cases e : y = x
    · subst e
      simp only at hr
      exact h.bad y hy b hbb (hc.rdb (by have := hb b hbb; omega) hr)
    · simp only [if_neg e, rdb_up] at hr
      exact h.bad y hy b hbb hr
  · by_cases e : y = x
    · subst e
      simp only at hl
      exact h.low y hy b hlt (hc.liv (by omega) hl)
    · simp only [if_neg e, liv_up] at hl
      exact h.low y hy b hlt hl
/-- The world turns where nobody looks. -/
theorem VI.aside (h : VI Bad B0 j V w) (hv : ∀ x, x ≤ j → View (up (V x) w') w') : VI Bad B0 j (fun y => up (V y) w') w' :=
  ⟨hv, fun y z hy hz hne b hl hr => h.ex y z hy hz hne b (liv_up.1 hl) (rdb_up.1 hr), fun y hy b hbb hr => h.bad y hy b hbb (rdb_up.1 hr), fun y hy b hlt hl => h.low y hy b hlt (liv_up.1 hl)⟩
/-- .. in one block. -/
theorem VI.block (h : VI Bad B0 j V w) {b : Nat} {d d' : Array Value} {ty : TypeId} {z z' : Nat × Nat} (hw : w.heap[b]? = some (.cells d ty z)) (hd : d ≠ #[]) (hw' : w'.heap[b]? = some (.cells d' ty z')) (oth : ∀ k, k ≠ b → w'.heap[k]? = w.heap[k]?)
    (hs : w'.heap.size = w.heap.size) (h1 : w'.tape = w.tape) (h2 : w'.os = w.os) (h3 : w'.output = w.output) (hn : ∀ x, x ≤ j → ¬ Rdb (V x) b) : VI Bad B0 j (fun y => up (V y) w') w' :=
  h.aside fun x hx => view_block (h.view x hx) hw hd hw' oth hs h1 h2 h3 (hn x hx)
theorem VI.at (h : VI Bad B0 j V w) (d : Nat) : VI Bad B0 j (fun y => up (V y) (w.at d)) (w.at d) := h.aside fun x hx => view_same (h.view x hx) rfl rfl rfl rfl
end
structure WI (D : Sc) (wb : World) (j : Nat) (σ : Nat → List (Addr × Value)) (st sm : Int) (w : World) : Prop where
  wg : WgAt D.ty D.Wg w st sm
  arrs : ∀ b d ty z, D.arr b = true → D.vb.heap[b]? = some (.cells d ty z) → ∃ d', w.heap[b]? = some (.cells d' ty z) ∧ d'.size = d.size
  sig : ∀ i, i < j → ∀ p ∈ σ i, D.own i p.1 ∧ w.cell? p.1 = some p.2
  old : ∀ b, b < D.vb.heap.size → b ≠ D.Wg → D.arr b = false → w.heap[b]? = wb.heap[b]?
  tape : w.tape = wb.tape
  os : w.os = wb.os
  output : w.output = wb.output
  size : D.vb.heap.size ≤ w.heap.size
  wgB : D.Wg < D.vb.heap.size
  pay : w.heap[D.c]? = some (.cells #[D.x] D.ety)
section
variable {D : Sc} {wb : World} {j : Nat} {σ : Nat → List (Addr × Value)} {st sm st' sm' : Int} {w w' : World}
theorem arr_lt (h : PhOk D) {b : Nat} (hb : D.arr b = true) : b < D.vb.heap.size := by
  obtain ⟨_, c, ty, h1⟩ := h.arr b hb
  exact (Array.getElem?_eq_some_iff.1 h1).1
theorem cell_same {w w' : World} {a : Addr} (h : w'.heap[a.block]? = w.heap[a.block]?) : w'.cell? a = w.cell? a := by simp only [World.cell?, h]
/-- All that is protected stands. -/
theorem WI.same (h : WI D wb j σ st sm w) (O : PhOk D) (hg : WgAt D.ty D.Wg w' st' sm') (ha : ∀ b, D.arr b = true → w'.heap[b]? = w.heap[b]?)
    (ho : ∀ b, b < D.vb.heap.size → b ≠ D.Wg → D.arr b = false → w'.heap[b]? = w.heap[b]?) (hs : w.heap.size ≤ w'.heap.size) (h1 : w'.tape = w.tape) (h2 : w'.os = w.os) (h3 : w'.output = w.output) : WI D wb j σ st' sm' w' := by
  refine ⟨hg, fun b d ty z hb hd => ?_, fun i hi p hp => ?_, fun b hb h4 h5 => (ho b hb h4 h5).trans (h.old b hb h4 h5), h1.trans h.tape, h2.trans h.os, h3.trans h.output, Nat.le_trans h.size hs, h.wgB, ?_⟩
  · rw [ha b hb]; exact h.arrs b d ty z hb hd
  · obtain ⟨e1, e2⟩ := h.sig i hi p hp
    exact ⟨e1, (cell_same (ha _ (O.own i _ e1).1)).trans e2⟩
  · exact (ho D.c (Array.getElem?_eq_some_iff.1 O.c.2.2).1 O.c.1 O.c.2.1).trans h.pay
theorem WI.has (h : WI D wb j σ st sm w) : Has D.c 0 D.x w := by simp [Has, World.cell?, h.pay]
theorem WI.live (h : WI D wb j σ st sm w) : WgLive D.ty D.Wg w := ⟨st, sm, h.wg⟩
/-- What a worker on its way out suffers. -/
theorem WI.rw (h : WI D wb j σ st sm w) {σ' : Nat → List (Addr × Value)} (h' : WI D wb j σ' st' sm' w') : @RW D.pay D.ty D.Wg D.c 1 0 0 w w' :=
  letI := D.pay
  ⟨fun b hb => absurd hb (Nat.not_lt_zero b), fun _ => h'.live, fun ⟨cs, e1, e2⟩ => ⟨cs, (h'.pay.trans h.pay.symm).trans e1, e2⟩, cell_same (h'.pay.trans h.pay.symm)⟩
theorem WI.rl (h' : WI D wb j σ st' sm' w') : RL D.ty D.Wg w w' := fun _ => h'.live
/-- A step of goroutine's x in its own view. -/
theorem WI.step {Bad : Nat → Prop} {V : Nat → World} (h : WI D wb j σ st sm w) (O : PhOk D) (hV : VI Bad D.vb.heap.size j V w) (hbad : ∀ b, b = D.Wg ∨ D.arr b = true → Bad b) {y : Nat} (hy : y ≤ j) {v' : World} (hc : Chg (V y) v' w w') :
    WI D wb j σ st sm w' := by
  have hsz := (hV.view y hy).size
  have keep : ∀ b, b < w.heap.size → ¬ Liv (V y) b → w'.heap[b]? = w.heap[b]? := fun b hb hn => (hc.keep b (by omega) hn).2
  have r0 := (hV.view y hy).rest
  have r1 := hc.view.rest
  have hs := h.size
  refine h.same O ?_ (fun b hb => ?_) (fun b hb h1 h2 => keep b (by omega) (hV.low y hy b hb)) ?_ ?_ ?_ ?_
  · exact h.wg.of_block (keep _ (by have := h.wgB; omega) fun hl => hV.bad y hy _ (hbad _ (.inl rfl)) hl.rdb)
  · exact keep b (by have := arr_lt O hb; omega) fun hl => hV.bad y hy _ (hbad _ (.inr hb)) hl.rdb
  · rw [← hc.view.size, ← hsz]; exact hc.grow
  · rw [r1, r0]; exact hc.tape
  · rw [r1, r0]; exact hc.os
  · rw [r1, r0]; exact hc.output
end
end Go.Proofs.Ytgeflnjjppgooaa.Y

namespace Go.Proofs.Ytgeflnjjppgooaa.Y
open Go Go.Conc Go.RowKit Go.Proofs.Ytgeflnjjppgooaa Go.Proofs.Ytgeflnjjppgooaa.Q
open Go.ConcR (KK wgBlock WgAt stA smA rd wr mk Payload DC0 g_of_ofEvents)
open Go.ConcN (WgLive PayAt Has RW DWs AtR0 WSit WD upd upd_same upd_ne CTag RelBy norel_of get_map_set get_map_set_same)
abbrev FF : Nat → Loc → Prop := fun _ _ => False
section
variable (P : Program) (D : Sc)
/-- Worker i: at its own work, or on the library's way out. -/
def WSitM (i : Nat) (wk : Bool) (E : WD) (r : Rk) (σ : List (Addr × Value)) (v : World) (g : Goroutine) (w : World) : Prop :=
  letI := D.pay
  (wk = true ∧ E.stage = 7 ∧ E.deaf = 0 ∧ GoW P D i r σ g v) ∨ (wk = false ∧ ∃ m, r = nat m ∧
    ((E.stage = 7 ∧ E.deaf = 0 ∧ Goes P false (RW D.ty D.Wg D.c 1 0 0) DC0 (AtR0 P D.ty D.Wg D.c 1 0 1 D.x) m g w) ∨ (E.stage ≠ 7 ∧ WSit P D.ty D.Wg D.c 1 FF FF 0 1 D.x E.stage m E.deaf g w)))
variable (K : Goroutine → World → Prop)
def AftA (r : Nat) (vs : World) : Goroutine → Prop := fun g' => @Go3 noPh P true (GoStop P D (D.n - (r + 1)) fun g v => @Go3 noPh P true (SpStop P D K r) g v) g' vs
def AftW : Goroutine → Prop := fun g' => ∀ v', Join D v' → K g' v'
structure AOk (A : Goroutine → World → Prop) : Prop where
  run : ∀ g w, A g w → g.status = .running
  round : ∀ g w, A g w → ∃ m, Goes P true (RL D.ty D.Wg) DC0 (LW1 P D.ty D.Wg (AftW D K) A) m g w
/-- The starter: tag, how many are started, one more for the measure, rank, deafness. -/
inductive CSitM : CTag → Nat → Nat → Rk → Nat → Goroutine → World → World → Prop
  | s6 {r : Nat} {k : Rk} {g : Goroutine} {v w : World} : r ≤ D.n → GoR P true (SpStop P D K r) k g v → CSitM (.sp r 6) (D.n - r) 0 k 0 g v w
  | s5 {r m : Nat} {g : Goroutine} {v w vs : World} : r < D.n → Ext vs v → Goes P true (RL D.ty D.Wg) DC0 (LKd P D.ty D.Wg (AftA P D K r vs)) m g w → CSitM (.sp (r + 1) 5) (D.n - (r + 1)) 0 (nat m) 0 g v w
  | s4 {r m : Nat} {g : Goroutine} {v w vs : World} : r < D.n → Ext vs v → Goes P true (RL D.ty D.Wg) DC0 (LA1 P D.ty D.Wg (AftA P D K r vs)) m g w → CSitM (.sp (r + 1) 4) (D.n - (r + 1)) 0 (nat m) 1 g v w
  | s3 {r m : Nat} {g : Goroutine} {v w vs : World} : r < D.n → Ext vs v → Goes P true (RL D.ty D.Wg) DC0 (LRd P D.ty D.Wg (AftA P D K r vs)) m g w → CSitM (.sp (r + 1) 3) (D.n - (r + 1)) 0 (nat m) 1 g v w
  | s2 {r m : Nat} {g : Goroutine} {v w vs : World} : r < D.n → Ext vs v → Goes P true (RL D.ty D.Wg) DC0 (LKe P (AftA P D K r vs)) m g w → CSitM (.sp (r + 1) 2) (D.n - (r + 1)) 0 (nat m) 1 g v w
  | s1 {r : Nat} {k : Rk} {g : Goroutine} {v w : World} : r < D.n → GoR P true (GoStop P D (D.n - (r + 1)) fun g v => @Go3 noPh P true (SpStop P D K r) g v) k g v → CSitM (.sp (r + 1) 1) (D.n - (r + 1)) 0 k 0 g v w
  | kd {m : Nat} {g : Goroutine} {v w : World} {A : Goroutine → World → Prop} : AOk P D K A → Goes P true (RL D.ty D.Wg) DC0 (LKdW P D.ty D.Wg A) m g w → CSitM .kd D.n 0 (nat m) 0 g v w
  | anch {m : Nat} {g : Goroutine} {v w : World} {A : Goroutine → World → Prop} : AOk P D K A → Goes P true (RL D.ty D.Wg) DC0 A m g w → CSitM .anch D.n 0 (nat m) 1 g v w
  | w1 {m : Nat} {g : Goroutine} {v w : World} {A : Goroutine → World → Prop} : AOk P D K A → Goes P true (RL D.ty D.Wg) DC0 (LW1 P D.ty D.Wg (AftW D K) A) m g w → CSitM .w1 D.n 0 (nat m) 1 g v w
  | w2 {vs m : Nat} {g : Goroutine} {v w : World} {A : Goroutine → World → Prop} : AOk P D K A → Goes P true (RL D.ty D.Wg) DC0 (LW2 P D.ty D.Wg (AftW D K) A vs) m g w → CSitM (.w2 vs) D.n 0 (nat m) 1 g v w
  | wr {m m' : Nat} {g : Goroutine} {v w : World} : Goes P true (RL D.ty D.Wg) DC0 (LWr P D.ty D.Wg (AftW D K) m') m g w → CSitM .w3 D.n 1 (nat m) 1 g v w
  | w3 {m : Nat} {g : Goroutine} {v w : World} : Goes P true (RL D.ty D.Wg) DC0 (LW3 P D.ty D.Wg (AftW D K)) m g w → CSitM .w3 D.n 0 (nat (m + 1)) 1 g v w
  | blk {m : Nat} {g : Goroutine} {v w : World} : (∀ w₁, RL D.ty D.Wg w w₁ → LW3 P D.ty D.Wg (AftW D K) g w₁) → CSitM .blk D.n 0 (nat m) 1 { g with status := .blocked } v w
  | w4 {m : Nat} {g : Goroutine} {v w : World} : Goes P true (RL D.ty D.Wg) DC0 (LW4 P D.ty D.Wg (AftW D K)) m g w → CSitM .w4 D.n 0 (nat m) 1 g v w
  | ke {m : Nat} {g : Goroutine} {v w : World} : Goes P true (RL D.ty D.Wg) DC0 (LKe2 P D.ty D.Wg (AftW D K)) m g w → CSitM .ke D.n 0 (nat m) 1 g v w
  | acq {m : Nat} {g : Goroutine} {v w : World} : Goes P true (RL D.ty D.Wg) DC0 (LAcq P D.Wg (AftW D K)) m g w → CSitM .acq D.n 0 (nat m) 0 g v w
end
section
variable {P : Program} {D : Sc} {K : Goroutine → World → Prop} {i : Nat} {wk : Bool} {E : WD} {r : Rk} {σ : List (Addr × Value)} {v v' : World} {g : Goroutine} {w w' : World} {tag : CTag} {j e d0 : Nat}
theorem WSitM.rely (h : WSitM P D i wk E r σ v g w) (hx : Ext v v') (hr : @RW D.pay D.ty D.Wg D.c 1 0 0 w w') : WSitM P D i wk E r σ v' g w' := by
  letI := D.pay
  exact h.imp (fun ⟨h1, h2, h3, h4⟩ => ⟨h1, h2, h3, h4.ext hx⟩) fun ⟨h1, m, h2, h3⟩ => ⟨h1, m, h2, h3.imp (fun ⟨h4, h5, h6⟩ => ⟨h4, h5, Goes.rely (fun _ _ _ a b => a.trans b) h6 hr⟩) fun ⟨h4, h5⟩ => ⟨h4, h5.rely hr⟩⟩
theorem WSitM.status (h : WSitM P D i wk E r σ v g w) : g.status = .running ∨ g.status = .finished := by
  letI := D.pay
  rcases h with ⟨_, _, _, h⟩ | ⟨_, m, _, ⟨_, _, h⟩ | ⟨_, h⟩⟩
  · rcases h.cases with h | h
    · exact .inl h.1
    · exact .inl h.1
  · exact .inl (Goes.running (fun _ _ x => x.1) w (Go.ConcN.RW.refl w) h)
  · exact h.status
theorem WSitM.running_of (h : WSitM P D i wk E r σ v g w) (hs : E.stage ≠ 1) : g.status = .running := by
  letI := D.pay
  rcases h with ⟨_, _, _, h⟩ | ⟨_, m, _, ⟨_, _, h⟩ | ⟨_, h⟩⟩
  · rcases h.cases with h | h
    · exact h.1
    · exact h.1
  · exact Goes.running (fun _ _ x => x.1) w (Go.ConcN.RW.refl w) h
  · exact h.running_of hs
theorem WSitM.woken (h : WSitM P D i wk E r σ v g w) (a a' : Goroutine) (u : World) : woken P a a' u g = g := by
  unfold Go.Conc.woken
  split
  · exact again_running _ h.status
  · rfl
theorem goL {S : Goroutine → World → Prop} {m : Nat} (h : Goes P true (RL D.ty D.Wg) DC0 S m g w) (hr : RL D.ty D.Wg w w') : Goes P true (RL D.ty D.Wg) DC0 S m g w' := Goes.rely (RL.trans D.ty D.Wg) h hr
theorem CSitM.rely (h : CSitM P D K tag j e r d0 g v w) (hx : Ext v v') (hr : RL D.ty D.Wg w w') : CSitM P D K tag j e r d0 g v' w' := by
  cases h with
  | s6 h1 h2 => exact .s6 h1 (h2.ext hx)
  | s5 h1 h2 h3 => exact .s5 h1 (h2.trans hx) (goL h3 hr)
  | s4 h1 h2 h3 => exact .s4 h1 (h2.trans hx) (goL h3 hr)
  | s3 h1 h2 h3 => exact .s3 h1 (h2.trans hx) (goL h3 hr)
  | s2 h1 h2 h3 => exact .s2 h1 (h2.trans hx) (goL h3 hr)
  | s1 h1 h2 => exact .s1 h1 (h2.ext hx)
  | kd h1 h2 => exact .kd h1 (goL h2 hr)
  | anch h1 h2 => exact .anch h1 (goL h2 hr)
  | w1 h1 h2 => exact .w1 h1 (goL h2 hr)
  | w2 h1 h2 => exact .w2 h1 (goL h2 hr)
  | wr h2 => exact .wr (goL h2 hr)
  | w3 h2 => exact .w3 (goL h2 hr)
  | blk h2 => exact .blk fun w₁ h₁ => h2 w₁ (RL.trans D.ty D.Wg _ _ _ hr h₁)
  | w4 h2 => exact .w4 (goL h2 hr)
  | ke h2 => exact .ke (goL h2 hr)
  | acq h2 => exact .acq (goL h2 hr)
theorem rl_refl (w : World) : RL D.ty D.Wg w w := id
theorem goRun {S : Goroutine → World → Prop} {m : Nat} (h : Goes P true (RL D.ty D.Wg) DC0 S m g w) (hS : ∀ g w, S g w → g.status = .running) : g.status = .running := Goes.running hS w (rl_refl w) h
theorem gorRun {S : Goroutine → World → Prop} {m : Bool} (h : GoR P m S r g v) (hS : ∀ g w, S g w → g.status = .running) : g.status = .running := by
  rcases h.cases with h | h
  · exact hS _ _ h
  · exact h.1
theorem spRun {r : Nat} : ∀ g w, SpStop P D K r g w → g.status = .running := by
  cases r with
  | zero => exact fun g w h => h.1
  | succ r => exact fun g w h => h.1
theorem CSitM.status (h : CSitM P D K tag j e r d0 g v w) : (g.status = .running ∧ tag ≠ .blk) ∨ (g.status = .blocked ∧ tag = .blk) := by
  cases h with
  | s6 h1 h2 => exact .inl ⟨gorRun h2 spRun, by simp⟩
  | s5 h1 h2 h3 => exact .inl ⟨goRun h3 fun _ _ x => x.1, by simp⟩
  | s4 h1 h2 h3 => exact .inl ⟨goRun h3 fun _ _ x => x.1, by simp⟩
  | s3 h1 h2 h3 => exact .inl ⟨goRun h3 fun _ _ x => x.1, by simp⟩
  | s2 h1 h2 h3 => exact .inl ⟨goRun h3 fun _ _ x => x.1, by simp⟩
  | s1 h1 h2 => exact .inl ⟨gorRun h2 fun _ _ x => x.1, by simp⟩
  | kd h1 h2 => exact .inl ⟨goRun h2 fun _ _ x => x.1, by simp⟩
  | anch h1 h2 => exact .inl ⟨goRun h2 h1.run, by simp⟩
  | w1 h1 h2 => exact .inl ⟨goRun h2 fun _ _ x => x.1, by simp⟩
  | w2 h1 h2 => exact .inl ⟨goRun h2 fun _ _ x => x.1, by simp⟩
  | wr h2 => exact .inl ⟨goRun h2 fun _ _ x => x.1, by simp⟩
  | w3 h2 => exact .inl ⟨goRun h2 fun _ _ x => x.1, by simp⟩
  | blk h2 => exact .inr ⟨rfl, rfl⟩
  | w4 h2 => exact .inl ⟨goRun h2 fun _ _ x => x.1, by simp⟩
  | ke h2 => exact .inl ⟨goRun h2 fun _ _ x => x.1, by simp⟩
  | acq h2 => exact .inl ⟨goRun h2 fun _ _ x => x.1, by simp⟩
/-- Under another's step. -/
theorem CSitM.wokenBy {a : Goroutine} (h : CSitM P D K tag j e r d0 a v w) (hx : Ext v v') (hr : RL D.ty D.Wg w w') (g g' : Goroutine) :
    ∃ tag' r', CSitM P D K tag' j e r' d0 (Go.Conc.woken P g g' w' a) v' w' ∧ (tag' = tag ∨ (tag = .blk ∧ tag' = .w3)) ∧ (mayWake P g = true → g'.status = .running → tag' ≠ .blk) := by
  have h' := h.rely hx hr
  unfold Go.Conc.woken
  split
  · rcases h'.status with ⟨hs, hne⟩ | ⟨_, rfl⟩
    · exact ⟨tag, r, by rw [again_running _ (.inl hs)]; exact h', .inl rfl, fun _ _ => hne⟩
    · cases h' with
      | blk hb =>
        have h3 := hb w' (rl_refl w')
        exact ⟨.w3, nat (0 + 1), by rw [Go.ConcR.again_blocked h3.1 h3.2.1]; exact .w3 (Goes.stop hb), .inr ⟨rfl, rfl⟩, fun _ _ => by simp⟩
  · rename_i hc
    exact ⟨tag, r, h', .inl rfl, fun h1 h2 => absurd (by simp [h1, h2]) hc⟩
end
structure St where
  j : Nat
  V : Nat → World
  E : Nat → WD
  wk : Nat → Bool
  σ : Nat → List (Addr × Value)
  F : Nat → Rk
  rel : Nat → Option Nat
  st : Int
  sm : Int
section
variable (P : Program) (D : Sc) (G0 : Nat) (Sh : Nat → Prop) (wb : World) (s : St)
def RdN (j : Nat) (V : Nat → World) (wk : Nat → Bool) (y b : Nat) : Prop := (y = 0 ∧ Rdb (V 0) b) ∨ ∃ i, i < j ∧ y = G0 + i ∧ wk i = true ∧ Rdb (V (i + 1)) b
def WrN (j : Nat) (V : Nat → World) (wk : Nat → Bool) (y : Nat) (ad : Addr) : Prop := (y = 0 ∧ (Liv (V 0) ad.block ∨ ∃ i, j ≤ i ∧ D.own i ad)) ∨ ∃ i, i < j ∧ y = G0 + i ∧ wk i = true ∧ (Liv (V (i + 1)) ad.block ∨ D.own i ad)
def ActN (j : Nat) (y : Nat) : Prop := y = 0 ∨ ∃ i, i < j ∧ y = G0 + i
def Bad (b : Nat) : Prop := b = D.Wg ∨ D.arr b = true ∨ Sh b
def ShW (b : Nat) : Prop := b = D.Wg ∨ Sh b
structure Com (gs : Array Goroutine) (w : World) (t : Trace) (d0 : Nat) : Prop where
  g0 : 0 < G0
  size : gs.size = G0 + s.j
  old : ∀ y g, 0 < y → y < G0 → gs[y]? = some g → ∃ q, s.F y = nat q ∧ QuitsD P q (Deaf t y) g
  wks : ∀ i, i < s.j → ∃ g, gs[G0 + i]? = some g ∧ WSitM P D i (s.wk i) (s.E i) (s.F (G0 + i)) (s.σ i) (s.V (i + 1)) g w
  vi : VI (Bad D Sh) D.vb.heap.size s.j s.V w
  wi : WI D wb s.j s.σ s.st s.sm w
  ti : TI (ShW D Sh) (RdN G0 s.j s.V s.wk) (WrN D G0 s.j s.V s.wk) (ActN G0 s.j) s.rel (G0 - 1) w.heap.size (G0 + s.j) t
  norel : ∀ a, NoRelease a t
  deaf0 : Deaf t 0 = d0
  deafW : ∀ i, i < s.j → Deaf t (G0 + i) = (s.E i).deaf
  rel : ∀ i, i < s.j → (s.E i).stage ≤ 6 → ∃ r, s.rel (G0 + i) = some r ∧ RelBy (stA D.Wg) t (G0 + i) r
  reln : ∀ i, (i < s.j → 7 ≤ (s.E i).stage) → s.rel (G0 + i) = none
  fin : ∀ i, i < s.j → s.wk i = false → D.fin i (s.σ i) (s.V (i + 1))
  shb : ∀ b, Sh b → b < D.vb.heap.size
  shA : ∀ b, Sh b → D.arr b = false
end
section
variable {P : Program} {D : Sc} {G0 : Nat} {Sh : Nat → Prop} {wb : World} {s : St} {gs : Array Goroutine} {w w' : World} {t : Trace} {d0 : Nat}
theorem Com.badlt (h : Com P D G0 Sh wb s gs w t d0) (O : PhOk D) : ∀ b, Bad D Sh b → b < w.heap.size := by
  have h1 := h.wi.size
  rintro b (rfl | hb | hb)
  · have := h.wi.wgB; omega
  · have := arr_lt O hb; omega
  · have := h.shb b hb; omega
theorem Com.fit (h : Com P D G0 Sh wb s gs w t d0) (O : PhOk D) : Fit (ShW D Sh) (RdN G0 s.j s.V s.wk) (WrN D G0 s.j s.V s.wk) w.heap.size := by
  have g0 := h.g0
  have vs : ∀ y, y ≤ s.j → (s.V y).heap.size = w.heap.size := fun y hy => (h.vi.view y hy).size
  have shb : ∀ b, ShW D Sh b → Bad D Sh b := fun b hb => hb.imp id .inr
  have ownB : ∀ i ad, D.own i ad → Bad D Sh ad.block := fun i ad ho => .inr (.inl (O.own i ad ho).1)
  refine ⟨fun y ad hw z hne => ⟨fun hr => ?_, fun hw2 => ?_⟩, fun y b hr => ?_, fun y ad hw => ?_, fun b hb => h.badlt O b (shb b hb), fun b hb y hr => ?_, fun ad hb y hw => ?_⟩
  · rcases hw with ⟨rfl, hl | ⟨i, hi, ho⟩⟩ | ⟨i, hi, rfl, hwk, hl | ho⟩ <;> rcases hr with ⟨rfl, hr⟩ | ⟨k, hk, rfl, hwk2, hr⟩
    · exact hne rfl
    · exact h.vi.ex 0 (k + 1) (by omega) (by omega) (by omega) _ hl hr
    · exact h.vi.bad 0 (by omega) _ (ownB _ _ ho) hr
    · exact h.vi.bad (k + 1) (by omega) _ (ownB _ _ ho) hr
    · exact h.vi.ex (i + 1) 0 (by omega) (by omega) (by omega) _ hl hr
    · exact h.vi.ex (i + 1) (k + 1) (by omega) (by omega) (by omega) _ hl hr
    · exact h.vi.bad 0 (by omega) _ (ownB _ _ ho) hr
    · exact h.vi.bad (k + 1) (by omega) _ (ownB _ _ ho) hr
  · rcases hw with ⟨rfl, hl | ⟨i, hi, ho⟩⟩ | ⟨i, hi, rfl, hwk, hl | ho⟩ <;> rcases hw2 with ⟨rfl, hl2 | ⟨k, hk, ho2⟩⟩ | ⟨k, hk, rfl, hwk2, hl2 | ho2⟩
    · exact hne rfl
    · exact hne rfl
    · exact h.vi.ex 0 (k + 1) (by omega) (by omega) (by omega) _ hl hl2.rdb
    · exact h.vi.bad 0 (by omega) _ (ownB _ _ ho2) hl.rdb
    · exact hne rfl
    · exact hne rfl
    · exact h.vi.bad (k + 1) (by omega) _ (ownB _ _ ho) hl2.rdb
    · have := O.own1 i k ad ho ho2; omega
    · exact h.vi.ex (i + 1) 0 (by omega) (by omega) (by omega) _ hl hl2.rdb
    · exact h.vi.bad (i + 1) (by omega) _ (ownB _ _ ho2) hl.rdb
    · exact h.vi.ex (i + 1) (k + 1) (by omega) (by omega) (by omega) _ hl hl2.rdb
    · exact h.vi.bad (i + 1) (by omega) _ (ownB _ _ ho2) hl.rdb
    · exact h.vi.bad 0 (by omega) _ (ownB _ _ ho) hl2.rdb
    · have := O.own1 i k ad ho ho2; omega
    · exact h.vi.bad (k + 1) (by omega) _ (ownB _ _ ho) hl2.rdb
    · have := O.own1 i k ad ho ho2; omega
  · rcases hr with ⟨rfl, hr⟩ | ⟨k, hk, rfl, _, hr⟩
    · rw [← vs 0 (by omega)]; exact rdb_lt hr
    · rw [← vs (k + 1) (by omega)]; exact rdb_lt hr
  · rcases hw with ⟨rfl, hl | ⟨i, hi, ho⟩⟩ | ⟨i, hi, rfl, hwk, hl | ho⟩
    · rw [← vs 0 (by omega)]; exact liv_lt hl
    · exact h.badlt O _ (ownB _ _ ho)
    · rw [← vs (i + 1) (by omega)]; exact liv_lt hl
    · exact h.badlt O _ (ownB _ _ ho)
  · rcases hr with ⟨rfl, hr⟩ | ⟨k, hk, rfl, _, hr⟩
    · exact h.vi.bad 0 (by omega) b (shb b hb) hr
    · exact h.vi.bad (k + 1) (by omega) b (shb b hb) hr
  · have nar : ∀ i, D.own i ad → False := fun i ho => by
      obtain ⟨h1, _⟩ := O.own i ad ho
      rcases hb with e | e
      · exact (O.arr _ h1).1 e
      · rw [h.shA _ e] at h1; cases h1
    rcases hw with ⟨rfl, hl | ⟨i, hi, ho⟩⟩ | ⟨i, hi, rfl, hwk, hl | ho⟩
    · exact h.vi.bad 0 (by omega) _ (shb _ hb) hl.rdb
    · exact nar i ho
    · exact h.vi.bad (i + 1) (by omega) _ (shb _ hb) hl.rdb
    · exact nar i ho
end
end Go.Proofs.Ytgeflnjjppgooaa.Y

namespace Go.Proofs.Ytgeflnjjppgooaa.Y
open Go Go.Conc Go.RowKit Go.Proofs.Ytgeflnjjppgooaa Go.Proofs.Ytgeflnjjppgooaa.Q
open Go.ConcR (KK wgBlock WgAt stA smA rd wr mk Payload DC0 g_of_ofEvents)
open Go.ConcN (WgLive PayAt Has RW DWs AtR0 WSit WD upd upd_same upd_ne CTag RelBy norel_of get_map_set get_map_set_same Deaf_absent)
section
variable {P : Program} {D : Sc} {G0 : Nat} {Sh : Nat → Prop} {wb : World} {s : St} {gs : Array Goroutine} {w w' : World} {t : Trace} {d0 : Nat} {fn : FuncId} {pos : String} {es : Array Event}
theorem ops_g {g : Nat} : ∀ op ∈ MemOp.ofEvents g fn pos es, op.g = g := g_of_ofEvents
theorem norelA {g : Nat} {ad : Addr} (h : ∀ e ∈ es, ∀ ad, e.loc ≠ .mark (.release ad)) : ∀ op ∈ MemOp.ofEvents g fn pos es, op.act ≠ .mark (.release ad) := by
  intro op hop e
  obtain ⟨x, hx, rfl⟩ := Go.Conc.mem_ofEvents hop
  exact h x hx ad (Go.ConcR.loc_of_ofEvent e)
theorem Com.above (h : Com P D G0 Sh wb s gs w t d0) {y : Nat} (hy : G0 + s.j ≤ y) : Deaf t y = 0 := Deaf_absent fun i op hi e => by
  have := h.ti.gs op (Array.mem_of_getElem? hi)
  omega
/-- What the views bear stands where the world turns aside. -/
theorem rd_up {j : Nat} {V : Nat → World} {wk : Nat → Bool} {u : World} {y b : Nat} : RdN G0 j (fun y => up (V y) u) wk y b ↔ RdN G0 j V wk y b := by simp only [RdN, rdb_up]
theorem wr_up {j : Nat} {V : Nat → World} {wk : Nat → Bool} {u : World} {y : Nat} {ad : Addr} : WrN D G0 j (fun y => up (V y) u) wk y ad ↔ WrN D G0 j V wk y ad := by simp only [WrN, liv_up]
/-- A draw. -/
theorem Com.at (h : Com P D G0 Sh wb s gs w t d0) (O : PhOk D) (d : Nat) : Com P D G0 Sh wb { s with V := fun y => up (s.V y) (w.at d) } gs (w.at d) t d0 := by
  have hWI : WI D wb s.j s.σ s.st s.sm (w.at d) := h.wi.same O h.wi.wg (fun _ _ => rfl) (fun _ _ _ _ => rfl) (Nat.le_refl _) rfl rfl rfl
  refine ⟨h.g0, h.size, h.old, fun i hi => ?_, h.vi.at d, hWI, h.ti.weak (fun y b => rd_up.1) (fun y ad => wr_up.1) (fun _ => id), h.norel, h.deaf0, h.deafW, h.rel, h.reln, fun i hi hw => O.finX _ _ _ _ (h.fin i hi hw) (up_ext _ _), h.shb, h.shA⟩
  obtain ⟨g, hg, hs⟩ := h.wks i hi
  exact ⟨g, hg, hs.rely (up_ext _ _) (h.wi.rw hWI)⟩
/-- A leaver slips. -/
theorem Com.slip (h : Com P D G0 Sh wb s gs w t d0) {y q : Nat} {g g' : Goroutine} (hy : 0 < y) (hyG : y < G0) (hg : gs[y]? = some g) (hm : ∀ e ∈ es, Event.mute e = true) (hq : QuitsD P q (deafBehind (Deaf t y) es) g') :
    Com P D G0 Sh wb { s with F := Go.ConcN.upd s.F y (nat q) } ((gs.map (woken P g g' w)).setIfInBounds y g') w (t ++ MemOp.ofEvents y fn pos es) d0 := by
  have hsz : y < gs.size := (Array.getElem?_eq_some_iff.1 hg).1
  have hmu : ∀ op ∈ MemOp.ofEvents y fn pos es, op.act.touch? = none := fun op hop => by obtain ⟨e, he, rfl⟩ := Go.Conc.mem_ofEvents hop; exact touch_mute (hm e he)
  refine ⟨h.g0, by simp [h.size], fun k x hk hkG hx => ?_, fun i hi => ?_, h.vi, h.wi, h.ti.mute (Nat.le_refl _) (fun op hop => by rw [ops_g op hop]; omega) hmu (fun op hop => by obtain ⟨e, he, rfl⟩ := Go.Conc.mem_ofEvents hop; exact low_mute (hm e he) _) ops_g,
    fun ad => (h.norel ad).app fun op hop => ?_, ?_, fun i hi => ?_, fun i hi hs => ?_, h.reln, h.fin, h.shb, h.shA⟩
  · by_cases e : k = y
    · subst e
      rw [get_map_set_same _ _ _ hsz] at hx
      cases hx
      exact ⟨q, upd_same _ _ _, by rw [Deaf_own]; exact hq⟩
    · rw [get_map_set _ _ _ _ (Ne.symm e)] at hx
      obtain ⟨z, hz, rfl⟩ := Option.map_eq_some_iff.1 hx
      obtain ⟨q', h1, h2⟩ := h.old k z hk hkG hz
      refine ⟨q', (upd_ne s.F _ e).trans h1, ?_⟩
      rw [woken_quitsD h2, Deaf_other t (Ne.symm e) _ ops_g]
      exact h2
  · obtain ⟨z, hz, hs⟩ := h.wks i hi
    refine ⟨z, by rw [get_map_set _ _ _ _ (by omega), hz, Option.map_some, hs.woken], ?_⟩
    have e2 : G0 + i ≠ y := by omega
    simp only [upd_ne s.F _ e2]
    exact hs
  · obtain ⟨e, he, rfl⟩ := Go.Conc.mem_ofEvents hop
    intro h1
    have h2 := hm e he
    have h3 := Go.ConcR.loc_of_ofEvent h1
    obtain ⟨l, ww, sy⟩ := e
    simp only at h3
    subst h3
    simp [Event.mute] at h2
  · rw [Deaf_other t (by omega) _ ops_g]; exact h.deaf0
  · rw [Deaf_other t (by omega) _ ops_g]; exact h.deafW i hi
  · obtain ⟨r, h1, h2⟩ := h.rel i hi hs
    exact ⟨r, h1, h2.appOther ops_g (by omega)⟩
/-- A step of the starter's. -/
theorem Com.caller (h : Com P D G0 Sh wb s gs w t d0) (O : PhOk D) {a a' : Goroutine} {V' : Nat → World} {st' sm' : Int} (hVI : VI (Bad D Sh) D.vb.heap.size s.j V' w') (hWI : WI D wb s.j s.σ st' sm' w')
    (hx : ∀ i, i < s.j → Ext (s.V (i + 1)) (V' (i + 1)))
    (hti : TI (ShW D Sh) (RdN G0 s.j V' s.wk) (WrN D G0 s.j V' s.wk) (ActN G0 s.j) s.rel (G0 - 1) w'.heap.size (G0 + s.j) (t ++ MemOp.ofEvents 0 fn pos es))
    (hnr : ∀ e ∈ es, ∀ ad, e.loc ≠ .mark (.release ad)) : Com P D G0 Sh wb { s with V := V', st := st', sm := sm' } ((gs.map (woken P a a' w')).setIfInBounds 0 a') w' (t ++ MemOp.ofEvents 0 fn pos es) (deafBehind d0 es) := by
  have g0 := h.g0
  refine ⟨g0, by simp [h.size], fun k x hk hkG hx => ?_, fun i hi => ?_, hVI, hWI, hti, fun ad => (h.norel ad).app (norelA hnr), by rw [Deaf_own, h.deaf0], fun i hi => by rw [Deaf_other t (by omega) _ ops_g]; exact h.deafW i hi, fun i hi hs => ?_, h.reln,
    fun i hi hw => O.finX _ _ _ _ (h.fin i hi hw) (hx i hi), h.shb, h.shA⟩
  · rw [get_map_set _ _ _ _ (by omega)] at hx
    obtain ⟨z, hz, rfl⟩ := Option.map_eq_some_iff.1 hx
    obtain ⟨q', h1, h2⟩ := h.old k z hk hkG hz
    refine ⟨q', h1, ?_⟩
    rw [woken_quitsD h2, Deaf_other t (by omega) _ ops_g]
    exact h2
  · obtain ⟨z, hz, hs⟩ := h.wks i hi
    exact ⟨z, by rw [get_map_set _ _ _ _ (by omega), hz, Option.map_some, hs.woken], hs.rely (hx i hi) (h.wi.rw hWI)⟩
  · obtain ⟨r, h1, h2⟩ := h.rel i hi hs
    exact ⟨r, h1, h2.appOther ops_g (by omega)⟩
/-- A step of worker's i. -/
theorem Com.worker (h : Com P D G0 Sh wb s gs w t d0) (O : PhOk D) {i : Nat} (hi : i < s.j) {g g' : Goroutine} {V' : Nat → World} {E' : WD} {wk' : Bool} {σ' : List (Addr × Value)} {r' : Rk} {rel' : Nat → Option Nat} {st' sm' : Int}
    (hVI : VI (Bad D Sh) D.vb.heap.size s.j V' w') (hWI : WI D wb s.j (Go.ConcN.upd s.σ i σ') st' sm' w')
    (hx : ∀ k, k < s.j → k ≠ i → Ext (s.V (k + 1)) (V' (k + 1)))
    (hti : TI (ShW D Sh) (RdN G0 s.j V' (Go.ConcN.upd s.wk i wk')) (WrN D G0 s.j V' (Go.ConcN.upd s.wk i wk')) (ActN G0 s.j) rel' (G0 - 1) w'.heap.size (G0 + s.j) (t ++ MemOp.ofEvents (G0 + i) fn pos es))
    (hsit : WSitM P D i wk' E' r' σ' (V' (i + 1)) g' w') (hnr : ∀ e ∈ es, ∀ ad, e.loc ≠ .mark (.release ad)) (hd : deafBehind (s.E i).deaf es = E'.deaf)
    (hrel : E'.stage ≤ 6 → ∃ r, rel' (G0 + i) = some r ∧ RelBy (stA D.Wg) (t ++ MemOp.ofEvents (G0 + i) fn pos es) (G0 + i) r) (hreln : 7 ≤ E'.stage → rel' (G0 + i) = none) (hro : ∀ y, y ≠ G0 + i → rel' y = s.rel y)
    (hfin : wk' = false → D.fin i σ' (V' (i + 1))) :
    Com P D G0 Sh wb { s with V := V', E := Go.ConcN.upd s.E i E', wk := Go.ConcN.upd s.wk i wk', σ := Go.ConcN.upd s.σ i σ', F := Go.ConcN.upd s.F (G0 + i) r', rel := rel', st := st', sm := sm' } ((gs.map (woken P g g' w')).setIfInBounds (G0 + i) g') w' (t ++ MemOp.ofEvents (G0 + i) fn pos es) d0 := by
  have g0 := h.g0
  refine ⟨g0, by simp [h.size], fun k x hk hkG hx => ?_, fun k hk => ?_, hVI, hWI, hti, fun ad => (h.norel ad).app (norelA hnr), by rw [Deaf_other t (by omega) _ ops_g, h.deaf0], fun k hk => ?_, fun k hk hs => ?_, fun k hk => ?_, fun k hk hw => ?_, h.shb, h.shA⟩
  · rw [get_map_set _ _ _ _ (by omega)] at hx
    obtain ⟨z, hz, rfl⟩ := Option.map_eq_some_iff.1 hx
    obtain ⟨q', h1, h2⟩ := h.old k z hk hkG hz
    refine ⟨q', by show Go.ConcN.upd s.F _ _ _ = _; rw [upd_ne s.F _ (by omega)]; exact h1, ?_⟩
    rw [woken_quitsD h2, Deaf_other t (by omega) _ ops_g]
    exact h2
  · by_cases e : k = i
    · subst e
      refine ⟨g', get_map_set_same _ _ _ (by rw [h.size]; simp only at hk; omega), ?_⟩
      simp only [upd_same]
      exact hsit
    · obtain ⟨z, hz, hs⟩ := h.wks k hk
      refine ⟨z, by rw [get_map_set _ _ _ _ (by omega), hz, Option.map_some, hs.woken], ?_⟩
      have e2 : G0 + k ≠ G0 + i := by omega
      simp only [upd_ne s.wk _ e, upd_ne s.E _ e, upd_ne s.σ _ e, upd_ne s.F _ e2]
      exact hs.rely (hx k hk e) (h.wi.rw hWI)
  · by_cases e : k = i
    · subst e
      simp only [upd_same]
      rw [Deaf_own, h.deafW k hk]; exact hd
    · simp only [upd_ne s.E _ e]
      rw [Deaf_other t (by omega) _ ops_g]; exact h.deafW k hk
  · by_cases e : k = i
    · subst e
      simp only [upd_same] at hs
      exact hrel hs
    · simp only [upd_ne s.E _ e] at hs
      obtain ⟨r, h1, h2⟩ := h.rel k hk hs
      exact ⟨r, by show rel' _ = _; rw [hro _ (by omega)]; exact h1, h2.appOther ops_g (by omega)⟩
  · by_cases e : k = i
    · subst e
      simp only [upd_same] at hk
      exact hreln (hk hi)
    · simp only [upd_ne s.E _ e] at hk
      show rel' _ = _
      rw [hro _ (by omega)]; exact h.reln k hk
  · by_cases e : k = i
    · subst e
      simp only [upd_same] at hw ⊢
      exact hfin hw
    · simp only [upd_ne s.wk _ e] at hw
      simp only [upd_ne s.σ _ e]
      exact O.finX _ _ _ _ (h.fin k hk hw) (hx k hk e)
end
end Go.Proofs.Ytgeflnjjppgooaa.Y

namespace Go.Proofs.Ytgeflnjjppgooaa.Y
open Go Go.Conc Go.RowKit Go.Proofs.Ytgeflnjjppgooaa Go.Proofs.Ytgeflnjjppgooaa.Q
open Go.ConcR (KK wgBlock WgAt stA smA rd wr mk Payload DC0 g_of_ofEvents)
open Go.ConcN (WgLive PayAt Has RW DWs AtR0 WSit WD upd upd_same upd_ne CTag RelBy norel_of get_map_set get_map_set_same Deaf_absent)
def gn (G0 : Nat) : Nat → Nat
  | 0 => 0
  | i + 1 => G0 + i
section
variable {P : Program} {D : Sc} {G0 : Nat} {Sh : Nat → Prop} {wb : World} {s : St} {gs : Array Goroutine} {w w' : World} {t : Trace} {d0 : Nat} {fn : FuncId} {pos : String} {es : Array Event}
/-- Whoever is at its own work has said no release. -/
theorem Com.atWork (h : Com P D G0 Sh wb s gs w t d0) {i : Nat} (hi : i < s.j) (hw : s.wk i = true) : (s.E i).stage = 7 ∧ (s.E i).deaf = 0 ∧ s.rel (G0 + i) = none := by
  obtain ⟨g, hg, hs⟩ := h.wks i hi
  rcases hs with ⟨_, h1, h2, _⟩ | ⟨h1, _⟩
  · exact ⟨h1, h2, h.reln i fun _ => by omega⟩
  · rw [hw] at h1; cases h1
theorem evok_op {v : World} {B : Nat} {e : Event} (he : EvOk v B e) {b : Touch} (hb : (MemAct.ofEvent e).touch? = some b) :
    (∃ r, b.loc = .obj r ∧ b.write = false) ∨ ∃ ad, b.loc = .cell ad ∧ (v.heap.size ≤ ad.block ∨ (if b.write = true then Liv v ad.block else Rdb v ad.block)) := by
  obtain ⟨loc, wr, sy⟩ := e
  unfold EvOk at he
  cases loc with
  | cell a =>
    simp only [MemAct.ofEvent, MemAct.touch?, Option.some.injEq] at hb
    subst hb
    exact .inr ⟨a, rfl, he.2⟩
  | obj r =>
    simp only at he
    obtain ⟨rfl, _⟩ := he
    simp only [MemAct.ofEvent, MemAct.touch?, Option.some.injEq] at hb
    subst hb
    exact .inl ⟨r, rfl, rfl⟩
  | mark m =>
    simp only at he
    simp only [MemAct.ofEvent] at hb
    rcases he with rfl | ⟨f, rfl⟩ <;> cases hb
  | _ => exact he.elim
theorem evok_low {v : World} {B : Nat} {e : Event} (he : EvOk v B e) : (MemAct.ofEvent e).low B := by
  obtain ⟨loc, wr, sy⟩ := e
  unfold EvOk at he
  cases loc with
  | cell a => exact he.1
  | obj r =>
    simp only at he
    obtain ⟨rfl, h, _⟩ := he
    exact h
  | mark m =>
    simp only at he
    rcases he with rfl | ⟨f, rfl⟩ <;> trivial
  | _ => exact he.elim
theorem evok_mark {v : World} {B : Nat} {e : Event} (he : EvOk v B e) : e.loc ≠ .mark .disable ∧ e.loc ≠ .mark .enable ∧ ∀ ad, e.loc ≠ .mark (.release ad) := by
  obtain ⟨loc, wr, sy⟩ := e
  unfold EvOk at he
  cases loc with
  | mark m =>
    simp only at he
    rcases he with rfl | ⟨f, rfl⟩ <;> simp
  | cell a => simp
  | obj r => simp
  | _ => exact he.elim
/-- A step of x's in its own view. -/
theorem Com.tiV (h : Com P D G0 Sh wb s gs w t d0) (O : PhOk D) {x : Nat} (hx : x ≤ s.j) (hw : ∀ i, x = i + 1 → s.wk i = true) {v' : World} (hc : Chg (s.V x) v' w w') (he : ∀ e ∈ es, EvOk (s.V x) v'.heap.size e) :
    TI (ShW D Sh) (RdN G0 s.j (fun y => if y = x then v' else up (s.V y) w') s.wk) (WrN D G0 s.j (fun y => if y = x then v' else up (s.V y) w') s.wk) (ActN G0 s.j) s.rel (G0 - 1) w'.heap.size (G0 + s.j) (t ++ MemOp.ofEvents (gn G0 x) fn pos es) := by
  have g0 := h.g0
  have hsz := (h.vi.view x hx).size
  have hsz' := hc.view.size
  have rdx : ∀ b, Rdb (s.V x) b → RdN G0 s.j s.V s.wk (gn G0 x) b := fun b hb => by
    cases x with
    | zero => exact .inl ⟨rfl, hb⟩
    | succ i => exact .inr ⟨i, by omega, rfl, hw i rfl, hb⟩
  have wrx : ∀ ad : Addr, Liv (s.V x) ad.block → WrN D G0 s.j s.V s.wk (gn G0 x) ad := fun b hb => by
    cases x with
    | zero => exact .inl ⟨rfl, .inl hb⟩
    | succ i => exact .inr ⟨i, by omega, rfl, hw i rfl, .inl hb⟩
  refine h.ti.step (h.fit O) (x := gn G0 x) ?_ ?_ ?_ ops_g (fun op hop b hb => ?_) (fun op hop => ?_) (fun i op b _ _ _ => ?_) (fun y b hr => ?_) (fun y ad hr => ?_)
  · cases x with
    | zero => exact .inl rfl
    | succ i => exact .inr ⟨i, by omega, rfl⟩
  · cases x with
    | zero => show 0 < _; omega
    | succ i => show G0 + i < _; omega
  · rw [← hsz, ← hsz']; exact hc.grow
  · obtain ⟨e, hee, rfl⟩ := Go.Conc.mem_ofEvents hop
    rcases evok_op (he e hee) hb with h1 | ⟨ad, h1, h2⟩
    · exact .inl h1
    · refine .inr ⟨ad, h1, ?_⟩
      rcases h2 with h2 | h2
      · exact .inr (.inl (by omega))
      · split at h2
        · exact .inr (.inr (.inl (wrx ad h2)))
        · rename_i hnw
          exact .inr (.inr (.inr ⟨rdx _ h2, by simpa using hnw⟩))
  · obtain ⟨e, hee, rfl⟩ := Go.Conc.mem_ofEvents hop
    rw [← hsz']
    exact evok_low (he e hee)
  · cases x with
    | zero => exact .inl rfl
    | succ i =>
      refine .inr (.inl ⟨?_, (h.atWork (i := i) (by omega) (hw i rfl)).2.2⟩)
      show G0 - 1 < G0 + i; omega
  · have key : ∀ y0, y0 ≤ s.j → Rdb ((fun y => if y = x then v' else up (s.V y) w') y0) b → Rdb (s.V y0) b ∨ (y0 = x ∧ w.heap.size ≤ b) := fun y0 hy0 hr => by
      by_cases e : y0 = x
      · subst e
        simp only [if_true] at hr
        rcases Nat.lt_or_ge b w.heap.size with hlt | hge
        · exact .inl (hc.rdb (by omega) hr)
        · exact .inr ⟨rfl, hge⟩
      · simp only at hr
        rw [if_neg e] at hr
        exact .inl (rdb_up.1 hr)
    rcases hr with ⟨rfl, hr⟩ | ⟨i, hi, rfl, hwk, hr⟩
    · rcases key 0 (by omega) hr with h1 | ⟨rfl, h1⟩
      · exact .inl (.inl ⟨rfl, h1⟩)
      · exact .inr ⟨rfl, h1⟩
    · rcases key (i + 1) (by omega) hr with h1 | ⟨rfl, h1⟩
      · exact .inl (.inr ⟨i, hi, rfl, hwk, h1⟩)
      · exact .inr ⟨rfl, h1⟩
  · have key : ∀ y0, y0 ≤ s.j → Liv ((fun y => if y = x then v' else up (s.V y) w') y0) ad.block → Liv (s.V y0) ad.block ∨ (y0 = x ∧ w.heap.size ≤ ad.block) := fun y0 hy0 hr => by
      by_cases e : y0 = x
      · subst e
        simp only [if_true] at hr
        rcases Nat.lt_or_ge ad.block w.heap.size with hlt | hge
        · exact .inl (hc.liv (by omega) hr)
        · exact .inr ⟨rfl, hge⟩
      · simp only at hr
        rw [if_neg e] at hr
        exact .inl (liv_up.1 hr)
    rcases hr with ⟨rfl, hr | hr⟩ | ⟨i, hi, rfl, hwk, hr | hr⟩
    · rcases key 0 (by omega) hr with h1 | ⟨rfl, h1⟩
      · exact .inl (.inl ⟨rfl, .inl h1⟩)
      · exact .inr ⟨rfl, h1⟩
    · exact .inl (.inl ⟨rfl, .inr hr⟩)
    · rcases key (i + 1) (by omega) hr with h1 | ⟨rfl, h1⟩
      · exact .inl (.inr ⟨i, hi, rfl, hwk, .inl h1⟩)
      · exact .inr ⟨rfl, h1⟩
    · exact .inl (.inr ⟨i, hi, rfl, hwk, .inr hr⟩)
/-- What the library's bookkeeping lists: no touch; or the group's cells, not plainly. -/
def EvS (D : Sc) (y : Nat) (e : Event) : Prop :=
  ((MemAct.ofEvent e).low (D.Wg + 1)) ∧ (∀ ad, e.loc ≠ .mark (.release ad)) ∧ ∀ b, (MemAct.ofEvent e).touch? = some b → (∃ ad, b.loc = .cell ad ∧ ad.block = D.Wg) ∧ b.kind ≠ .plain ∧ (b.kind = .said → y = 0)
theorem evS_mk {y : Nat} {m : Mark} (h : ∀ ad, m ≠ .release ad) (hl : (MemAct.mark m).low (D.Wg + 1)) (hn : (MemAct.mark m).touch? = none) : EvS D y (mk m) := by
  refine ⟨hl, fun ad e => h ad (Loc.mark.inj e), fun b hb => ?_⟩
  rw [show MemAct.ofEvent (mk m) = .mark m from rfl, hn] at hb; cases hb
theorem evS_at {y : Nat} (a : Addr) (wr : Bool) (h : a.block = D.Wg) : EvS D y ⟨.cell a, wr, true⟩ := by
  refine ⟨by show a.block < _; omega, by simp, fun b hb => ?_⟩
  rw [show MemAct.ofEvent ⟨.cell a, wr, true⟩ = .access ⟨.cell a, wr, true⟩ by cases wr <;> rfl] at hb
  simp only [MemAct.touch?, Option.some.injEq] at hb
  subst hb
  exact ⟨⟨a, rfl, h⟩, by simp, by simp⟩
theorem evS_said {y : Nat} (a : Addr) (h : a.block = D.Wg) (hy : y = 0) (m : Mark) (hm : m = .read a ∨ m = .write a) : EvS D y (mk m) := by
  rcases hm with rfl | rfl <;> refine ⟨by show a.block < _; omega, by simp [mk], fun b hb => ?_⟩ <;> simp only [mk, MemAct.ofEvent, MemAct.touch?, Option.some.injEq] at hb <;> subst hb <;> exact ⟨⟨a, rfl, h⟩, by simp, fun _ => hy⟩
theorem evS_sem {y : Nat} : ∀ e ∈ semEvents (smA D.Wg), EvS D y e := by
  intro e he
  simp [semEvents] at he
  rcases he with rfl | rfl | rfl | rfl
  · exact evS_mk (m := .disable) (by simp) trivial rfl
  · exact evS_at _ _ rfl
  · exact evS_at _ _ rfl
  · exact evS_mk (m := .enable) (by simp) trivial rfl
/-- Not heard: made while deaf. -/
theorem not_heard {g : Nat} {d : Nat} (hd : Deaf t g = d) (h : ∀ jx e, es[jx]? = some e → (MemAct.ofEvent e).touch? = none ∨ 0 < deafBehind d (es.extract 0 jx)) {i : Nat} {op : MemOp} {b : Touch} (hi : t.size ≤ i) (ho : (t ++ MemOp.ofEvents g fn pos es)[i]? = some op) (hb : op.act.touch? = some b) :
    ¬ (t ++ MemOp.ofEvents g fn pos es).heard i := by
  have hj : (MemOp.ofEvents g fn pos es)[i - t.size]? = some op := by
    rw [Array.getElem?_append] at ho
    simpa [Nat.not_lt.2 hi] using ho
  rw [ofEvents_eq, Array.getElem?_map] at hj
  obtain ⟨e, he, rfl⟩ := Option.map_eq_some_iff.1 hj
  have hjs : i - t.size ≤ es.size := by
    rcases Nat.lt_or_ge (i - t.size) es.size with h' | h'
    · omega
    · rw [Array.getElem?_eq_none h'] at he; cases he
  rintro ⟨g', hg', hz⟩
  have hg1 : g' = g := by simp [Trace.g?, ho] at hg'; exact hg'.symm
  subst hg1
  rcases h _ e he with h0 | h0
  · simp only at hb; rw [h0] at hb; cases hb
  · have := deaf_inside t g' fn pos es (i - t.size) hjs
    rw [show t.size + (i - t.size) = i by omega, hd] at this
    omega
/-- A step of the library's, of goroutine y. -/
theorem Com.tiS (h : Com P D G0 Sh wb s gs w t d0) (O : PhOk D) {y : Nat} (hy : ActN G0 s.j y) (hs : w'.heap.size = w.heap.size) (he : ∀ e ∈ es, EvS D y e)
    (hk : y = 0 ∨ ∀ jx e, es[jx]? = some e → (MemAct.ofEvent e).touch? = none ∨ 0 < deafBehind (Deaf t y) (es.extract 0 jx)) :
    TI (ShW D Sh) (RdN G0 s.j s.V s.wk) (WrN D G0 s.j s.V s.wk) (ActN G0 s.j) s.rel (G0 - 1) w'.heap.size (G0 + s.j) (t ++ MemOp.ofEvents y fn pos es) := by
  have g0 := h.g0
  have hwg : D.Wg + 1 ≤ w.heap.size := by have := h.wi.wgB; have := h.wi.size; omega
  refine h.ti.step (h.fit O) hy ?_ (by omega) ops_g (fun op hop b hb => ?_) (fun op hop => ?_) (fun i op b hi ho hb => ?_) (fun y b hr => .inl hr) (fun y ad hr => .inl hr)
  · rcases hy with rfl | ⟨i, hi, rfl⟩ <;> omega
  · obtain ⟨e, hee, rfl⟩ := Go.Conc.mem_ofEvents hop
    obtain ⟨⟨ad, h1, h2⟩, h3, h4⟩ := (he e hee).2.2 b hb
    exact .inr ⟨ad, h1, .inl ⟨.inl h2, h3, h4⟩⟩
  · obtain ⟨e, hee, rfl⟩ := Go.Conc.mem_ofEvents hop
    rw [hs]
    exact MemAct.low_mono hwg (he e hee).1
  · rcases hk with rfl | hk
    · exact .inl rfl
    · have hop : op ∈ MemOp.ofEvents y fn pos es := by
        rcases getElem?_append_cases ho with ⟨hlt, _⟩ | ⟨_, hu⟩
        · omega
        · exact hu
      obtain ⟨e, hee, rfl⟩ := Go.Conc.mem_ofEvents hop
      obtain ⟨⟨ad, h1, h2⟩, h3, h4⟩ := (he e hee).2.2 b hb
      rcases Nat.eq_zero_or_pos y with e0 | hpos
      · exact .inl e0
      · refine .inr (.inr ⟨⟨ad, h1, .inl h2⟩, ?_, not_heard rfl hk hi ho hb⟩)
        cases hbk : b.kind with
        | plain => exact absurd hbk h3
        | atomic => rfl
        | said => have := h4 hbk; omega
/-- A store of worker's i to a cell of its own. -/
theorem Com.tiC (h : Com P D G0 Sh wb s gs w t d0) (O : PhOk D) {i : Nat} (hi : i < s.j) (hwk : s.wk i = true) {a : Addr} (ho : D.own i a) (hs : w'.heap.size = w.heap.size) :
    TI (ShW D Sh) (RdN G0 s.j s.V s.wk) (WrN D G0 s.j s.V s.wk) (ActN G0 s.j) s.rel (G0 - 1) w'.heap.size (G0 + s.j) (t ++ MemOp.ofEvents (G0 + i) fn pos #[⟨.cell a, true, false⟩]) := by
  have g0 := h.g0
  have hab := h.badlt O _ (.inr (.inl (O.own i a ho).1))
  refine h.ti.step (h.fit O) (x := G0 + i) (.inr ⟨i, hi, rfl⟩) (by omega) (by omega) ops_g (fun op hop b hb => ?_) (fun op hop => ?_) (fun k op b _ _ _ => .inr (.inl ⟨by omega, (h.atWork hi hwk).2.2⟩)) (fun y b hr => .inl hr) (fun y ad hr => .inl hr)
  · obtain ⟨e, hee, rfl⟩ := Go.Conc.mem_ofEvents hop
    simp only [List.mem_toArray, List.mem_cons, List.not_mem_nil, or_false] at hee
    subst hee
    simp only [MemAct.ofEvent, MemAct.touch?, Option.some.injEq] at hb
    subst hb
    exact .inr ⟨a, rfl, .inr (.inr (.inl (.inr ⟨i, hi, rfl, hwk, .inr ho⟩)))⟩
  · obtain ⟨e, hee, rfl⟩ := Go.Conc.mem_ofEvents hop
    simp only [List.mem_toArray, List.mem_cons, List.not_mem_nil, or_false] at hee
    subst hee
    show a.block < _
    omega
end
end Go.Proofs.Ytgeflnjjppgooaa.Y

namespace Go.Proofs.Ytgeflnjjppgooaa.Y
open Go Go.Conc Go.RowKit Go.Proofs.Ytgeflnjjppgooaa Go.Proofs.Ytgeflnjjppgooaa.Q
open Go.ConcR (KK wgBlock WgAt stA smA rd wr mk Payload DC0 g_of_ofEvents Bk bk_of_mute ofEvent_loc_mark)
open Go.ConcN (get_map_set get_map_set_same WgLive PayAt Has RW DWs AtR0 WSit WD upd upd_same upd_ne CTag RelBy Vc Ssum cnt phi pend sumTo sumTo_upd phi_mono phi_retag bk_cell isW3 OpenSt Vc_upd Vc_le others_uncounted le_sumTo)
def bit (b : Bool) : Nat := if b then 1 else 0
def mu (D : Sc) (s : St) (tag : CTag) (e : Nat) (k : Rk) : Mu := (phi D.n (Vc s.j s.E) tag + Ssum s.j s.E + sumTo s.j (fun i => bit (s.wk i)) + e, s.F, k)
section
variable (P : Program) (D : Sc) (K : Goroutine → World → Prop) (G0 : Nat) (Sh : Nat → Prop) (wb : World)
def Inv (μ : Mu) (m : Machine) (t : Trace) : Prop :=
  ∃ (s : St) (gs : Array Goroutine) (w : World) (sl : Option (Nat × Nat)) (tag : CTag) (e : Nat) (k : Rk) (d0 : Nat) (a : Goroutine),
    m = crowd gs w sl ∧ gs[0]? = some a ∧ CSitM P D K tag s.j e k d0 a (s.V 0) w ∧ Com P D G0 Sh wb s gs w t d0 ∧ Go.ConcN.Mode s.j s.E tag s.st s.sm ∧ μ = mu D s tag e k
/-- What a step must show. -/
def Falls (gs : Array Goroutine) (w : World) (sl : Option (Nat × Nat)) (t : Trace) (i : Nat) (μ : Mu) : Prop :=
  ∃ m₁ ops μ', runT P (crowd gs w sl) i = (.next m₁, ops) ∧ Lt (G0 + D.n) μ' μ ∧ Inv P D K G0 Sh wb μ' m₁ (t ++ ops)
end
section
variable {P : Program} {D : Sc} {K : Goroutine → World → Prop} {G0 : Nat} {Sh : Nat → Prop} {wb : World} {s : St} {gs : Array Goroutine} {w w' : World} {sl : Option (Nat × Nat)} {t : Trace} {tag : CTag} {e d0 : Nat} {k : Rk} {a : Goroutine} {es : Array Event}
theorem CSitM.bound {j : Nat} {v : World} (h : CSitM P D K tag j e k d0 a v w) : j + pend tag ≤ D.n := by
  cases h <;> simp only [pend] <;> (try simp) <;> omega
theorem workerStep (ha : gs[0]? = some a) (h : Com P D G0 Sh wb s gs w t d0) (hcs : CSitM P D K tag s.j e k d0 a (s.V 0) w) {i : Nat} (hi : i < s.j) {g g' : Goroutine} (hg : gs[G0 + i]? = some g) (hgo : stepG P false g w = .go g' w' es)
    {s' : St} {E' : WD} {wk' : Bool} {r' : Rk} (h' : Com P D G0 Sh wb s' ((gs.map (woken P g g' w')).setIfInBounds (G0 + i) g') w' (t ++ MemOp.ofEvents (G0 + i) g.frame.fn g.frame.place es) d0)
    (hj : s'.j = s.j) (hE : s'.E = Go.ConcN.upd s.E i E') (hwk : s'.wk = Go.ConcN.upd s.wk i wk') (hF : s'.F = Go.ConcN.upd s.F (G0 + i) r') (hx0 : Ext (s.V 0) (s'.V 0))
    (hmode : ∀ tag', (tag' = tag ∨ (tag = .blk ∧ tag' = .w3)) → (mayWake P g = true → g'.status = .running → tag' ≠ .blk) → Go.ConcN.Mode s.j (Go.ConcN.upd s.E i E') tag' s'.st s'.sm)
    (hlt : (E'.stage + bit wk' < (s.E i).stage + bit (s.wk i) ∧ cnt E' ≤ cnt (s.E i)) ∨ (E'.stage = (s.E i).stage ∧ wk' = s.wk i ∧ Dn r' (s.F (G0 + i)))) :
    Falls P D K G0 Sh wb gs w sl t (G0 + i) (mu D s tag e k) := by
  have g0 := h.g0
  have hb := hcs.bound
  obtain ⟨tag', k', hcs', htag, hwkn⟩ := hcs.wokenBy hx0 (h'.wi.rl (w := w)) g g'
  have hne : (G0 + i == 0) = false := by simp; omega
  have hrun := runT_crowd_go (P := P) (sl := sl) (i := G0 + i) hg (by rw [hne]; exact hgo)
  have e1 := sumTo_upd s.E E' cnt hi
  have e2 := sumTo_upd s.E E' WD.stage hi
  have e3 := sumTo_upd s.wk wk' bit hi
  refine ⟨_, _, mu D s' tag' e k', hrun, ?_, s', _, w', sl, tag', e, k', d0, woken P g g' w' a, rfl, ?_, by rw [hj]; exact hcs', h', by rw [hj, hE]; exact hmode tag' htag hwkn, rfl⟩
  · simp only [mu, hj, hE, hwk, hF]
    rw [phi_retag D.n _ htag]
    simp only [Vc, Ssum] at *
    rcases hlt with ⟨h1, h2⟩ | ⟨h1, h2, h3⟩
    · refine Lt.num ?_
      have := phi_mono D.n (v' := sumTo s.j fun a => cnt (Go.ConcN.upd s.E i E' a)) (v := sumTo s.j fun a => cnt (s.E a)) (by omega) tag
      omega
    · have ec : cnt E' = cnt (s.E i) := by simp only [cnt, h1]
      have ev : (sumTo s.j fun a => cnt (Go.ConcN.upd s.E i E' a)) = sumTo s.j fun a => cnt (s.E a) := by omega
      have es' : (sumTo s.j fun a => (Go.ConcN.upd s.E i E' a).stage) = sumTo s.j fun a => (s.E a).stage := by omega
      have eb : (sumTo s.j fun a => bit (Go.ConcN.upd s.wk i wk' a)) = sumTo s.j fun a => bit (s.wk a) := by rw [h2] at e3 ⊢; omega
      rw [ev, es', eb]
      refine Lt.vec ⟨G0 + i, by omega, by rw [upd_same]; exact h3, fun y hy => upd_ne s.F _ hy⟩
  · rw [get_map_set _ _ _ _ (by omega), ha]; rfl
/-- At most the group's block turns. -/
theorem wi_wg (h : Com P D G0 Sh wb s gs w t d0) (O : PhOk D) (hA : Go.Conc.Aside D.Wg w w') {st' sm' : Int} (hw : WgAt D.ty D.Wg w' st' sm') : WI D wb s.j s.σ st' sm' w' :=
  h.wi.same O hw (fun b hb => hA.block b (O.arr b hb).1) (fun b _ h1 _ => hA.block b h1) (by rw [hA.size]; exact Nat.le_refl _) hA.tape hA.os hA.output
theorem vi_wg (h : Com P D G0 Sh wb s gs w t d0) (hA : Go.Conc.Aside D.Wg w w') {st' sm' : Int} (hw : WgAt D.ty D.Wg w' st' sm') : VI (Bad D Sh) D.vb.heap.size s.j (fun y => up (s.V y) w') w' := by
  have h1 := h.wi.wg
  unfold WgAt wgBlock at h1 hw
  exact h.vi.block h1 (by simp) hw (fun k hk => hA.block k hk) hA.size hA.tape hA.os hA.output fun x hx hr => h.vi.bad x hx _ (.inl rfl) hr
theorem upd_id {α : Type} (f : Nat → α) (i : Nat) : Go.ConcN.upd f i (f i) = f := by
  funext a
  by_cases h : a = i
  · subst h; exact upd_same _ _ _
  · exact upd_ne f _ h
theorem bk_evS {y : Nat} {e : Event} (h : Bk D.Wg e) : EvS D y e := by
  rcases h with h1 | h1 | ⟨a, wr, rfl, ha⟩
  · obtain ⟨l, ww, sy⟩ := e
    simp only at h1; subst h1
    exact ⟨trivial, by simp, fun b hb => by simp [MemAct.ofEvent, MemAct.touch?] at hb⟩
  · obtain ⟨l, ww, sy⟩ := e
    simp only at h1; subst h1
    exact ⟨trivial, by simp, fun b hb => by simp [MemAct.ofEvent, MemAct.touch?] at hb⟩
  · exact evS_at a wr ha
theorem rd_wk {i : Nat} {wk' : Bool} (hw : wk' = true → s.wk i = true) {y b : Nat} : RdN G0 s.j s.V (Go.ConcN.upd s.wk i wk') y b → RdN G0 s.j s.V s.wk y b := by
  rintro (h | ⟨i', h1, h2, h3, h4⟩)
  · exact .inl h
  · refine .inr ⟨i', h1, h2, ?_, h4⟩
    by_cases e : i' = i
    · subst e; rw [upd_same] at h3; exact hw h3
    · rw [upd_ne s.wk _ e] at h3; exact h3
theorem wr_wk {i : Nat} {wk' : Bool} (hw : wk' = true → s.wk i = true) {y : Nat} {ad : Addr} : WrN D G0 s.j s.V (Go.ConcN.upd s.wk i wk') y ad → WrN D G0 s.j s.V s.wk y ad := by
  rintro (h | ⟨i', h1, h2, h3, h4⟩)
  · exact .inl h
  · refine .inr ⟨i', h1, h2, ?_, h4⟩
    by_cases e : i' = i
    · subst e; rw [upd_same] at h3; exact hw h3
    · rw [upd_ne s.wk _ e] at h3; exact h3
/-- A step of the library's, of worker i on its way out. -/
theorem wBook (O : PhOk D) (ha : gs[0]? = some a) (h : Com P D G0 Sh wb s gs w t d0) (hcs : CSitM P D K tag s.j e k d0 a (s.V 0) w) {i : Nat} (hi : i < s.j) {g g' : Goroutine} (hg : gs[G0 + i]? = some g) (hgo : stepG P false g w = .go g' w' es)
    {st' sm' : Int} (hA : Go.Conc.Aside D.Wg w w') (hw : WgAt D.ty D.Wg w' st' sm') {E' : WD} {m : Nat} (hsit : WSitM P D i false E' (nat m) (s.σ i) (s.V (i + 1)) g' w') (hfin : D.fin i (s.σ i) (s.V (i + 1)))
    (he : ∀ e ∈ es, EvS D (G0 + i) e) (hdl : ∀ jx e, es[jx]? = some e → (MemAct.ofEvent e).touch? = none ∨ 0 < deafBehind (s.E i).deaf (es.extract 0 jx)) (hd : deafBehind (s.E i).deaf es = E'.deaf)
    {rel' : Nat → Option Nat} (hti : ∀ V wk' : _, TI (ShW D Sh) (RdN G0 s.j V wk') (WrN D G0 s.j V wk') (ActN G0 s.j) s.rel (G0 - 1) w'.heap.size (G0 + s.j) (t ++ MemOp.ofEvents (G0 + i) g.frame.fn g.frame.place es) →
      TI (ShW D Sh) (RdN G0 s.j V wk') (WrN D G0 s.j V wk') (ActN G0 s.j) rel' (G0 - 1) w'.heap.size (G0 + s.j) (t ++ MemOp.ofEvents (G0 + i) g.frame.fn g.frame.place es))
    (hrel : E'.stage ≤ 6 → ∃ r, rel' (G0 + i) = some r ∧ RelBy (stA D.Wg) (t ++ MemOp.ofEvents (G0 + i) g.frame.fn g.frame.place es) (G0 + i) r) (hreln : 7 ≤ E'.stage → rel' (G0 + i) = none) (hro : ∀ y, y ≠ G0 + i → rel' y = s.rel y)
    (hmode : ∀ tag', (tag' = tag ∨ (tag = .blk ∧ tag' = .w3)) → (mayWake P g = true → g'.status = .running → tag' ≠ .blk) → Go.ConcN.Mode s.j (Go.ConcN.upd s.E i E') tag' st' sm')
    (hlt : (E'.stage < (s.E i).stage + bit (s.wk i) ∧ cnt E' ≤ cnt (s.E i)) ∨ (E'.stage = (s.E i).stage ∧ s.wk i = false ∧ Dn (nat m) (s.F (G0 + i)))) :
    Falls P D K G0 Sh wb gs w sl t (G0 + i) (mu D s tag e k) := by
  have hti0 := h.tiS (w' := w') (fn := g.frame.fn) (pos := g.frame.place) O (.inr ⟨i, hi, rfl⟩) hA.size he (.inr (by rw [h.deafW i hi]; exact hdl))
  have h1 := hti (fun y => up (s.V y) w') (Go.ConcN.upd s.wk i false) (hti0.weak (fun y b hr => rd_wk (by simp) (rd_up.1 hr)) (fun y ad hr => wr_wk (by simp) (wr_up.1 hr)) fun _ => id)
  have hWI := wi_wg h O hA hw
  have h2 := h.worker O hi (g := g) (g' := g') (E' := E') (wk' := false) (σ' := s.σ i) (r' := nat m) (rel' := rel') (st' := st') (sm' := sm') (vi_wg h hA hw) (by rw [upd_id]; exact hWI) (fun y _ _ => up_ext _ _) h1 (hsit.rely (up_ext _ _) (hWI.rw hWI)) (fun e hee => (he e hee).2.1) hd hrel hreln hro
    (fun _ => O.finX _ _ _ _ hfin (up_ext _ _))
  refine workerStep ha h hcs hi hg hgo h2 rfl rfl rfl rfl (up_ext _ _) hmode ?_
  · rcases hlt with ⟨h2, h3⟩ | ⟨h2, h3, h4⟩
    · exact .inl ⟨by simpa [bit] using h2, h3⟩
    · exact .inr ⟨h2, h3.symm, h4⟩
/-- .. behind its release. -/
theorem wOut (O : PhOk D) (ha : gs[0]? = some a) (h : Com P D G0 Sh wb s gs w t d0) (hcs : CSitM P D K tag s.j e k d0 a (s.V 0) w) {i : Nat} (hi : i < s.j) {g g' : Goroutine} (hg : gs[G0 + i]? = some g) (hgo : stepG P false g w = .go g' w' es)
    {st' sm' : Int} (hA : Go.Conc.Aside D.Wg w w') (hw : WgAt D.ty D.Wg w' st' sm') (hwk : s.wk i = false) (h6 : (s.E i).stage ≤ 6) {q m dd q' : Nat}
    (hsit : letI := D.pay; WSit P D.ty D.Wg D.c 1 FF FF 0 1 D.x q m dd g' w') (hq6 : q ≤ 6)
    (he : ∀ e ∈ es, Bk D.Wg e) (hdl : ∀ jx e, es[jx]? = some e → (MemAct.ofEvent e).touch? = none ∨ 0 < deafBehind (s.E i).deaf (es.extract 0 jx)) (hd : deafBehind (s.E i).deaf es = dd)
    (hmode : ∀ tag', (tag' = tag ∨ (tag = .blk ∧ tag' = .w3)) → (mayWake P g = true → g'.status = .running → tag' ≠ .blk) → Go.ConcN.Mode s.j (Go.ConcN.upd s.E i ⟨q, q', dd⟩) tag' st' sm')
    (hlt : (q < (s.E i).stage) ∨ (q = (s.E i).stage ∧ Dn (nat m) (s.F (G0 + i)))) :
    Falls P D K G0 Sh wb gs w sl t (G0 + i) (mu D s tag e k) := by
  obtain ⟨r, hr1, hr2⟩ := h.rel i hi h6
  refine wBook O ha h hcs hi hg hgo hA hw (E' := ⟨q, q', dd⟩) (m := m) (.inr ⟨rfl, m, rfl, .inr ⟨by show q ≠ 7; omega, hsit⟩⟩) (h.fin i hi hwk) (fun e hee => bk_evS (he e hee)) hdl hd (rel' := s.rel) (fun _ _ h => h)
    (fun _ => ⟨r, hr1, hr2.book (h.deafW i hi) _ _ he hdl⟩) (fun h7 => by simp only at h7; omega) (fun _ _ => rfl) hmode ?_
  rcases hlt with h2 | ⟨h2, h3⟩
  · exact .inl ⟨by simp only; omega, by simp only [cnt]; split <;> split <;> omega⟩
  · exact .inr ⟨h2, hwk, h3⟩
/-- From the end of its own work to the release. -/
theorem wR0 (O : PhOk D) (ha : gs[0]? = some a) (h : Com P D G0 Sh wb s gs w t d0) (hcs : CSitM P D K tag s.j e k d0 a (s.V 0) w) (hmode : Go.ConcN.Mode s.j s.E tag s.st s.sm) {i : Nat} (hi : i < s.j) {g : Goroutine} (hg : gs[G0 + i]? = some g) (h7 : (s.E i).stage = 7) (hd0 : (s.E i).deaf = 0)
    (hfin : D.fin i (s.σ i) (s.V (i + 1))) {m : Nat} (hgo : letI := D.pay; Goes P false (RW D.ty D.Wg D.c 1 0 0) DC0 (AtR0 P D.ty D.Wg D.c 1 0 1 D.x) m g w) (hm : s.wk i = true ∨ (s.wk i = false ∧ s.F (G0 + i) = nat m)) :
    Falls P D K G0 Sh wb gs w sl t (G0 + i) (mu D s tag e k) := by
  letI := D.pay
  have hdk : Deaf t (G0 + i) = 0 := by rw [h.deafW i hi, hd0]
  have hn : s.rel (G0 + i) = none := h.reln i fun _ => by omega
  rcases Goes.cases hgo with hstop | ⟨m', rfl, hstep⟩
  · obtain ⟨_, hhas, g', hst, m₂, hk⟩ := hstop w (Go.ConcN.RW.refl w)
    refine wBook O ha h hcs hi hg hst (.refl D.Wg w) h.wi.wg (E' := ⟨6, 0, 0⟩) (m := m₂) (.inr ⟨rfl, m₂, rfl, .inr ⟨by simp, .k1 hk⟩⟩) hfin (fun e hee => ?_) (fun jx e hee => .inl ?_) (by rw [hd0]; rfl) (rel' := Go.ConcN.upd s.rel (G0 + i) (some t.size))
      (fun V wk' ht => ht.note fun i' b hb => ?_) (fun _ => ⟨t.size, upd_same _ _ _, RelBy.new hdk _ _⟩) (fun h => by simp at h) (fun y hy => upd_ne s.rel _ hy) (fun _ ht _ => (hmode.counted hi (by omega) (.inl rfl) _ _).retag ht) ?_
    · simp at hee; subst hee
      exact evS_mk (by simp) (by show D.Wg < _; omega) rfl
    · have := Array.mem_of_getElem? hee; simp at this; subst this; rfl
    · obtain ⟨z, hz, hza⟩ := touch_of hb
      rcases getElem?_append_cases hz with ⟨hlt, _⟩ | ⟨_, hu⟩
      · exact hlt
      · obtain ⟨x, hx, rfl⟩ := Go.Conc.mem_ofEvents hu
        simp at hx; subst hx
        simp [mk, MemAct.ofEvent, MemAct.touch?] at hza
    · exact .inl ⟨by rw [h7]; simp only; omega, by simp [cnt, h7]⟩
  · obtain ⟨g', w', es, hst, ⟨rfl, rfl⟩, hg'⟩ := hstep w (Go.ConcN.RW.refl w)
    refine wBook O ha h hcs hi hg hst (.refl D.Wg _) h.wi.wg (E' := ⟨7, 0, 0⟩) (m := m') (.inr ⟨rfl, m', rfl, .inl ⟨rfl, rfl, hg'⟩⟩) hfin (by simp) (by simp) (by rw [hd0]; rfl) (rel' := s.rel) (fun _ _ h => h) (fun h => by simp at h) (fun _ => hn) (fun _ _ => rfl) (fun _ ht _ => Go.ConcN.Mode.retag ?_ ht) ?_
    · exact hmode.congr fun b _ => by
        by_cases e : b = i
        · subst e; rw [upd_same]; exact h7.symm
        · rw [upd_ne s.E _ e]
    · rcases hm with h1 | ⟨h1, h2⟩
      · exact .inl ⟨by rw [h7, h1]; simp [bit], by simp [cnt, h7]⟩
      · exact .inr ⟨h7.symm, h1, by rw [h2]; exact dn_nat m'⟩
end
end Go.Proofs.Ytgeflnjjppgooaa.Y

namespace Go.Proofs.Ytgeflnjjppgooaa.Y
open Go Go.Conc Go.RowKit Go.Proofs.Ytgeflnjjppgooaa Go.Proofs.Ytgeflnjjppgooaa.Q
open Go.ConcR (KK wgBlock WgAt stA smA rd wr mk Payload DC0 g_of_ofEvents Bk bk_of_mute ofEvent_loc_mark)
open Go.ConcN (get_map_set get_map_set_same WgLive PayAt Has RW DWs AtR0 WSit WD upd upd_same upd_ne CTag RelBy Vc Ssum cnt phi pend sumTo sumTo_upd phi_mono phi_retag bk_cell isW3 OpenSt Vc_upd Vc_le others_uncounted le_sumTo)
section
variable {P : Program} {D : Sc} {K : Goroutine → World → Prop} {G0 : Nat} {Sh : Nat → Prop} {wb : World} {s : St} {gs : Array Goroutine} {w : World} {sl : Option (Nat × Nat)} {t : Trace} {tag : CTag} {e d0 : Nat} {k : Rk} {a : Goroutine}
theorem mode_same {j i : Nat} {E : Nat → WD} {tag : CTag} {st sm : Int} (hm : Go.ConcN.Mode j E tag st sm) (E' : WD) (h : E'.stage = (E i).stage) : Go.ConcN.Mode j (Go.ConcN.upd E i E') tag st sm :=
  hm.congr fun b _ => by
    by_cases e : b = i
    · subst e; rw [upd_same]; exact h
    · rw [upd_ne E _ e]
/-- Its own work: a step in its view. -/
theorem wView (O : PhOk D) (ha : gs[0]? = some a) (h : Com P D G0 Sh wb s gs w t d0) (hcs : CSitM P D K tag s.j e k d0 a (s.V 0) w) (hmode : Go.ConcN.Mode s.j s.E tag s.st s.sm) {i : Nat} (hi : i < s.j) {g g' : Goroutine} (hg : gs[G0 + i]? = some g)
    (hwk : s.wk i = true) {v' : World} (hs : StepTo P false g (s.V (i + 1)) g' v') {r' : Rk} (hd : Dn r' (s.F (G0 + i))) (hn : GoW P D i r' (s.σ i) g' v') : Falls P D K G0 Sh wb gs w sl t (G0 + i) (mu D s tag e k) := by
  obtain ⟨h7, hd0, hrn⟩ := h.atWork hi hwk
  obtain ⟨w', es, hgo, hc, he⟩ := hs w (h.vi.view (i + 1) (by omega))
  have hVI := h.vi.step (x := i + 1) (by omega) hc (h.badlt O) h.wi.size
  have hWI := h.wi.step O h.vi (fun b hb => hb.elim .inl fun hb => .inr (.inl hb)) (y := i + 1) (by omega) hc
  have hti := h.tiV (fn := g.frame.fn) (pos := g.frame.place) O (x := i + 1) (by omega) (fun i' e => by rw [show i' = i by omega]; exact hwk) hc he
  have hx : ∀ y, y ≠ i + 1 → Ext (s.V y) ((fun y => if y = i + 1 then v' else up (s.V y) w') y) := fun y hy => by simp only [if_neg hy]; exact up_ext _ _
  have hdb : deafBehind (s.E i).deaf es = (s.E i).deaf := deafBehind_still (fun x hx => ⟨(evok_mark (he x hx)).1, (evok_mark (he x hx)).2.1⟩) _
  have h2 := h.worker O hi (g := g) (g' := g') (E' := s.E i) (wk' := true) (σ' := s.σ i) (r' := r') (rel' := s.rel) hVI (by rw [upd_id]; exact hWI) (fun y _ hy => hx _ (by omega)) (by
      have e1 : Go.ConcN.upd s.wk i true = s.wk := by rw [← hwk, upd_id]
      rw [e1]; exact hti) (.inl ⟨rfl, h7, hd0, by simp only [if_true]; exact hn⟩) (fun x hx => (evok_mark (he x hx)).2.2) hdb (fun h6 => by omega) (fun _ => hrn) (fun _ _ => rfl) (fun h => by cases h)
  exact workerStep ha h hcs hi hg hgo h2 rfl rfl rfl rfl (hx 0 (by omega)) (fun _ ht _ => (mode_same hmode (s.E i) rfl).retag ht) (.inr ⟨rfl, hwk.symm, hd⟩)
/-- .. a store to a cell of its own. -/
theorem wStore (O : PhOk D) (ha : gs[0]? = some a) (h : Com P D G0 Sh wb s gs w t d0) (hcs : CSitM P D K tag s.j e k d0 a (s.V 0) w) (hmode : Go.ConcN.Mode s.j s.E tag s.st s.sm) {i : Nat} (hi : i < s.j) {g g' : Goroutine} (hg : gs[G0 + i]? = some g)
    (hwk : s.wk i = true) {ad : Addr} {y : Value} (hs : Stores P D i (s.σ i) g ad y g') {r' : Rk} (hd : Dn r' (s.F (G0 + i))) (hn : GoW P D i r' ((ad, y) :: s.σ i) g' (s.V (i + 1))) : Falls P D K G0 Sh wb gs w sl t (G0 + i) (mu D s tag e k) := by
  obtain ⟨h7, hd0, hrn⟩ := h.atWork hi hwk
  obtain ⟨ho, hne, hst⟩ := hs
  obtain ⟨har, hsp, z, hz⟩ := O.own i ad ho
  obtain ⟨hnW, c, ty, hvb⟩ := O.arr _ har
  obtain ⟨c', hw1, hcs'⟩ := h.wi.arrs _ c ty (0, 0) har hvb
  have hoff : ad.off < c.size := by
    simp only [World.cell?, hvb, hsp] at hz
    exact (Array.getElem?_eq_some_iff.1 hz).1
  have hcell : ∃ z', w.cell? ad = some z' := by
    simp only [World.cell?, hw1, hsp]
    exact ⟨c'[ad.off], by simp [hcs', hoff]⟩
  obtain ⟨z', hz'⟩ := hcell
  have hfr : w.frozen? ad = false := by simp [World.frozen?, hw1]
  have hgo := hst w z' hz' hfr
  have hheap : ∀ b, (w.setCell ad y).heap[b]? = if ad.block = b then (w.heap[b]?).map (fun o => match o with | .cells c t z => .cells (if ad.spot.isSome = true then c else c.setIfInBounds ad.off y) t z | o => o) else w.heap[b]? := setCell_heap w ad y
  have hnew : (w.setCell ad y).heap[ad.block]? = some (.cells (c'.setIfInBounds ad.off y) ty (0, 0)) := by rw [hheap, if_pos rfl, hw1]; simp [hsp]
  have hoth : ∀ b, b ≠ ad.block → (w.setCell ad y).heap[b]? = w.heap[b]? := fun b hb => by rw [hheap, if_neg (Ne.symm hb)]
  have hsz : (w.setCell ad y).heap.size = w.heap.size := by simp [World.setCell]
  have hc0 : c' ≠ #[] := by rintro rfl; simp at hcs'; omega
  have hVI := h.vi.block hw1 hc0 hnew hoth hsz rfl rfl rfl fun x hx hr => h.vi.bad x hx _ (.inr (.inl har)) hr
  have hcel : ∀ p : Addr, p ≠ ad → p.spot = none → (w.setCell ad y).cell? p = w.cell? p := fun p hp hps => by
    by_cases e : p.block = ad.block
    · have hpo : p.off ≠ ad.off := fun e2 => hp (by cases p; cases ad; simp_all)
      simp only [World.cell?, e, hnew, hw1, hps]
      simp [Array.getElem?_setIfInBounds_ne (Ne.symm hpo)]
    · exact cell_same (hoth _ e)
  have hWI : WI D wb s.j (Go.ConcN.upd s.σ i ((ad, y) :: s.σ i)) s.st s.sm (w.setCell ad y) := by
    refine ⟨h.wi.wg.of_block (hoth _ (Ne.symm hnW)), fun b d ty' z hb hd => ?_, fun i' hi' p hp => ?_, fun b h1 h2 h3 => (hoth b (fun e => by rw [e, har] at h3; cases h3)).trans (h.wi.old b h1 h2 h3), h.wi.tape, h.wi.os, h.wi.output, by rw [hsz]; exact h.wi.size, h.wi.wgB, ?_⟩
    · by_cases e : b = ad.block
      · subst e
        obtain ⟨d', h1, h2⟩ := h.wi.arrs _ d ty' z hb hd
        rw [hw1] at h1
        cases h1
        exact ⟨_, hnew, by simp [h2]⟩
      · rw [hoth b e]; exact h.wi.arrs b d ty' z hb hd
    · by_cases e : i' = i
      · subst e
        rw [upd_same] at hp
        rcases List.mem_cons.1 hp with rfl | hp
        · refine ⟨ho, ?_⟩
          simp only [World.cell?, hnew, hsp]
          rw [← hcs'] at hoff
          simp [hoff]
        · obtain ⟨h1, h2⟩ := h.wi.sig i' hi p hp
          exact ⟨h1, (hcel _ (hne p hp) (O.own _ _ h1).2.1).trans h2⟩
      · rw [upd_ne s.σ _ e] at hp
        obtain ⟨h1, h2⟩ := h.wi.sig i' hi' p hp
        exact ⟨h1, (hcel p.1 (fun e2 => e (O.own1 _ _ _ h1 (by rw [e2]; exact ho))) (O.own _ _ h1).2.1).trans h2⟩
    · exact (hoth _ fun e2 => by rw [← e2, O.c.2.1] at har; cases har).trans h.wi.pay
  have hti := h.tiC (w' := w.setCell ad y) (fn := g.frame.fn) (pos := g.frame.place) O hi hwk ho hsz
  have e1 : Go.ConcN.upd s.wk i true = s.wk := by rw [← hwk, upd_id]
  have h2 := h.worker O hi (g := g) (g' := g') (E' := s.E i) (wk' := true) (σ' := (ad, y) :: s.σ i) (r' := r') (rel' := s.rel) hVI hWI (fun y _ _ => up_ext _ _)
    (by rw [e1]; exact hti.weak (fun y b hr => rd_up.1 hr) (fun y ad hr => wr_up.1 hr) fun _ => id) (.inl ⟨rfl, h7, hd0, hn.ext (up_ext _ _)⟩) (by intro x hx; simp at hx; subst hx; simp) rfl (fun h6 => by omega) (fun _ => hrn) (fun _ _ => rfl) (fun h => by cases h)
  exact workerStep ha h hcs hi hg hgo h2 rfl rfl rfl rfl (up_ext _ _) (fun _ ht _ => (mode_same hmode (s.E i) rfl).retag ht) (.inr ⟨rfl, hwk.symm, hd⟩)
set_option maxHeartbeats 1600000 in
/-- WHATEVER STEP OF A WORKER's. -/
theorem stepWorker (O : PhOk D) (ha : gs[0]? = some a) (h : Com P D G0 Sh wb s gs w t d0) (hcs : CSitM P D K tag s.j e k d0 a (s.V 0) w) (hmode : Go.ConcN.Mode s.j s.E tag s.st s.sm) {i : Nat} (hi : i < s.j) {g : Goroutine} (hg : gs[G0 + i]? = some g) (hrun : g.status = .running) :
    Falls P D K G0 Sh wb gs w sl t (G0 + i) (mu D s tag e k) := by
  letI := D.pay
  obtain ⟨g₁, hg₁, hs⟩ := h.wks i hi
  obtain rfl : g = g₁ := by rw [hg] at hg₁; exact Option.some.inj hg₁
  have hO := O.n
  rcases hs with ⟨hwk, h7, hd0, hs⟩ | ⟨hwk, m, hm, ⟨h7, hd0, hs⟩ | ⟨hn7, hs⟩⟩
  · rcases hs.cases with ⟨_, hfin, hl⟩ | ⟨_, r', hd, ⟨g', v', h1, h2⟩ | ⟨ad, y, g', h1, h2⟩⟩
    · obtain ⟨m, hgo⟩ := hl w h.wi.live h.wi.has
      exact wR0 O ha h hcs hmode hi hg h7 hd0 hfin hgo (.inl hwk)
    · exact wView O ha h hcs hmode hi hg hwk h1 hd h2
    · exact wStore O ha h hcs hmode hi hg hwk h1 hd h2
  · exact wR0 O ha h hcs hmode hi hg h7 hd0 (h.fin i hi hwk) hs (.inr ⟨hwk, hm⟩)
  have hb := hcs.bound
  have hVj := Vc_le s.j s.E
  have hwg := h.wi.wg
  generalize hst : (s.E i).stage = q at hs
  generalize hde : (s.E i).deaf = dd at hs
  -- nothing turns, nothing is listed
  have idle : ∀ {g' : Goroutine} {m' : Nat}, stepG P false g w = .go g' w #[] → WSit P D.ty D.Wg D.c 1 FF FF 0 1 D.x q m' dd g' w → m' + 1 = m → q ≤ 6 → Falls P D K G0 Sh wb gs w sl t (G0 + i) (mu D s tag e k) := by
    intro g' m' hgo hs' hm' h6
    exact wOut O ha h hcs hi hg hgo (.refl D.Wg w) hwg hwk (by omega) (q' := 0) hs' h6 (by simp) (by simp) (by rw [hde]; rfl) (fun _ ht _ => (mode_same hmode ⟨q, 0, dd⟩ hst.symm).retag ht) (.inr ⟨hst.symm, by rw [hm, ← hm']; exact dn_nat m'⟩)
  have bk1 : ∀ e ∈ #[rd (stA D.Wg)], Bk D.Wg e := by intro e he; simp at he; subst he; exact bk_cell _ _ rfl
  have bk2 : ∀ e ∈ #[rd (stA D.Wg), wr (stA D.Wg)], Bk D.Wg e := by intro e he; simp at he; rcases he with rfl | rfl <;> exact bk_cell _ _ rfl
  have bkw : ∀ e ∈ #[wr (stA D.Wg)], Bk D.Wg e := by intro e he; simp at he; subst he; exact bk_cell _ _ rfl
  cases hs with
  | r0 _ => exact absurd hst hn7
  | k1 hs =>
    rcases Goes.cases hs with hstop | ⟨m', rfl, hstep⟩
    · obtain ⟨_, g', hgo, m₂, hk⟩ := hstop w (Go.ConcN.RW.refl w)
      exact wOut O ha h hcs hi hg hgo (.refl D.Wg w) hwg hwk (by omega) (q' := 0) (.d1 hk) (by omega) (by intro e he; simp at he; subst he; exact .inl rfl) (by intro jx e he; exact .inl (by have := Array.mem_of_getElem? he; simp at this; subst this; rfl)) (by rw [hde]; rfl)
        (fun _ ht _ => (hmode.counted hi (by omega) (.inr rfl) _ _).retag ht) (.inl (by omega))
    · obtain ⟨g', w', es, hgo, ⟨rfl, rfl⟩, hg'⟩ := hstep w (Go.ConcN.RW.refl w)
      exact idle hgo (.k1 hg') rfl (by omega)
  | d1 hs =>
    rcases Goes.cases hs with hstop | ⟨m', rfl, hstep⟩
    · obtain ⟨_, hall⟩ := hstop w (Go.ConcN.RW.refl w)
      have hc1 : cnt (s.E i) = 1 := by simp [cnt, hst]
      have hV1 : 1 ≤ Vc s.j s.E := by have := le_sumTo (f := fun x => cnt (s.E x)) hi; simp only [Vc]; omega
      have df2 : ∀ jx e, (#[rd (stA D.Wg), wr (stA D.Wg)] : Array Event)[jx]? = some e → (MemAct.ofEvent e).touch? = none ∨ 0 < deafBehind (s.E i).deaf ((#[rd (stA D.Wg), wr (stA D.Wg)] : Array Event).extract 0 jx) := by
        intro jx e he
        rw [hde]
        match jx, he with
        | 0, _ => exact .inr (by simp [deafBehind])
        | 1, _ => exact .inr (by simp [deafBehind, rd])
        | jx + 2, he => simp at he
      have opq : OpenSt s.j s.E → OpenSt s.j (Go.ConcN.upd s.E i ⟨1, 0, 1⟩) := fun h a ha => by
        by_cases e : a = i
        · subst e; rw [upd_same]; simp
        · rw [upd_ne s.E _ e]; exact h a ha
      have hvu := Vc_upd s.E (⟨1, 0, 1⟩ : WD) hi
      have hq0 : cnt (⟨1, 0, 1⟩ : WD) = 0 := rfl
      generalize hem : s.st = stv at hmode hwg
      generalize hes : s.sm = smv at hmode hwg
      cases hmode with
      | opn h1 h2 h3 =>
        obtain ⟨v, hv⟩ : ∃ v, Vc s.j s.E + pend tag = v + 1 := ⟨Vc s.j s.E + pend tag - 1, by omega⟩
        rw [hv] at hwg
        have hw1 : WgAt D.ty D.Wg w (((v : Nat) + 1) * KK + ((0 : Nat) : Int)) 0 := by simpa using hwg
        obtain ⟨g', hgo, _, hq⟩ := hall v 0 (by omega) (by omega) hw1
        obtain ⟨q2, hq⟩ := hq (by omega)
        refine wOut O ha h hcs hi hg hgo (aside_setCell w (stA D.Wg) _) (hwg.setSt _) hwk (by omega) (q' := 0) (.quit hq) (by omega) bk2 df2 (by rw [hde]; rfl) (fun _ ht _ => Go.ConcN.Mode.retag ?_ ht) (.inl (by omega))
        have e : ((v : Nat) : Int) * KK + ((0 : Nat) : Int) = ((Vc s.j (Go.ConcN.upd s.E i ⟨1, 0, 1⟩) + pend tag : Nat) : Int) * KK := by rw [show Vc s.j (Go.ConcN.upd s.E i ⟨1, 0, 1⟩) + pend tag = v by omega]; simp
        rw [e]
        exact .opn h1 (opq h2) (fun vs ev => by have := h3 vs ev; omega)
      | reg h1 h2 h3 =>
        obtain ⟨v, hv⟩ : ∃ v, Vc s.j s.E = v + 1 := ⟨Vc s.j s.E - 1, by omega⟩
        rw [hv] at hwg
        have hp : pend tag = 0 := by cases tag <;> first | rfl | exact h1.elim
        have hw1 : WgAt D.ty D.Wg w (((v : Nat) + 1) * KK + ((1 : Nat) : Int)) 0 := by simpa using hwg
        obtain ⟨g', hgo, hl, hq⟩ := hall v 1 (by omega) (by omega) hw1
        by_cases hv0 : v = 0
        · subst hv0
          obtain ⟨m₂, hk⟩ := hl ⟨rfl, rfl⟩
          refine wOut O ha h hcs hi hg hgo (aside_setCell w (stA D.Wg) _) (hwg.setSt _) hwk (by omega) (q' := 0) (.d2 hk) (by omega) bk2 df2 (by rw [hde]; rfl) (fun _ ht _ => Go.ConcN.Mode.retag ?_ ht) (.inl (by omega))
          have hoth : ∀ a, a < s.j → a ≠ i → (s.E a).stage = 1 := fun a ha e => by
            have c0 := others_uncounted hi hv hc1 a ha e
            have := h2 a ha
            simp only [cnt] at c0
            split at c0 <;> omega
          have := Go.ConcN.Mode.last (j := s.j) (D := Go.ConcN.upd s.E i ⟨4, 0, 1⟩) (tag := tag) i h1 hi (by rw [upd_same]; simp) (fun a ha e => by rw [upd_ne s.E _ e]; exact hoth a ha e)
          rw [upd_same] at this
          simpa using this
        · obtain ⟨q2, hq⟩ := hq (by omega)
          refine wOut O ha h hcs hi hg hgo (aside_setCell w (stA D.Wg) _) (hwg.setSt _) hwk (by omega) (q' := 0) (.quit hq) (by omega) bk2 df2 (by rw [hde]; rfl) (fun _ ht _ => Go.ConcN.Mode.retag ?_ ht) (.inl (by omega))
          have e : ((v : Nat) : Int) * KK + ((1 : Nat) : Int) = ((Vc s.j (Go.ConcN.upd s.E i ⟨1, 0, 1⟩) : Nat) : Int) * KK + 1 := by rw [show Vc s.j (Go.ConcN.upd s.E i ⟨1, 0, 1⟩) = v by omega]; simp
          rw [e]
          exact .reg h1 (opq h2) (by omega)
      | last L _ h2 h3 h4 =>
        by_cases e : i = L
        · subst e; omega
        · have := h4 i hi e; omega
      | sema h2 => have := h2 i hi; omega
      | fin _ h2 => have := h2 i hi; omega
    · obtain ⟨g', w', es, hgo, ⟨rfl, rfl⟩, hg'⟩ := hstep w (Go.ConcN.RW.refl w)
      exact idle hgo (.d1 hg') rfl (by omega)
  | d2 hs =>
    rcases Goes.cases hs with hstop | ⟨m', rfl, hstep⟩
    · obtain ⟨_, hx⟩ := hstop w (Go.ConcN.RW.refl w)
      obtain ⟨hW3, hoth, e1, e2⟩ := hmode.isLast hi (by omega)
      rw [e1, e2, hst] at hwg
      obtain ⟨g', hgo, m₂, hk⟩ := hx (by simpa using hwg)
      refine wOut O ha h hcs hi hg hgo (.refl D.Wg w) hwg hwk (by omega) (q' := 0) (.d3 hk) (by omega) bk1 (by intro jx e he; rw [hde]; match jx, he with | 0, _ => exact .inr (by simp [deafBehind]) | jx + 1, he => simp at he) (by rw [hde]; rfl) (fun _ ht _ => Go.ConcN.Mode.retag ?_ ht) (.inl (by omega))
      have := Go.ConcN.Mode.last (j := s.j) (D := Go.ConcN.upd s.E i ⟨3, 0, 1⟩) (tag := tag) i hW3 hi (by rw [upd_same]; simp) (fun a ha e => by rw [upd_ne s.E _ e]; exact hoth a ha e)
      rw [upd_same] at this
      simpa using this
    · obtain ⟨g', w', es, hgo, ⟨rfl, rfl⟩, hg'⟩ := hstep w (Go.ConcN.RW.refl w)
      exact idle hgo (.d2 hg') rfl (by omega)
  | d3 hs =>
    rcases Goes.cases hs with hstop | ⟨m', rfl, hstep⟩
    · obtain ⟨_, hx⟩ := hstop w (Go.ConcN.RW.refl w)
      obtain ⟨hW3, hoth, e1, e2⟩ := hmode.isLast hi (by omega)
      rw [e1, e2, hst] at hwg
      obtain ⟨g', hgo, m₂, hk⟩ := hx (by simpa using hwg)
      refine wOut O ha h hcs hi hg hgo (aside_setCell w (stA D.Wg) _) (hwg.setSt 0) hwk (by omega) (q' := 0) (.d4 hk) (by omega) bkw (by intro jx e he; rw [hde]; match jx, he with | 0, _ => exact .inr (by simp [deafBehind]) | jx + 1, he => simp at he) (by rw [hde]; rfl) (fun _ ht _ => Go.ConcN.Mode.retag ?_ ht) (.inl (by omega))
      have := Go.ConcN.Mode.last (j := s.j) (D := Go.ConcN.upd s.E i ⟨2, 0, 1⟩) (tag := tag) i hW3 hi (by rw [upd_same]; simp) (fun a ha e => by rw [upd_ne s.E _ e]; exact hoth a ha e)
      rw [upd_same] at this
      simpa using this
    · obtain ⟨g', w', es, hgo, ⟨rfl, rfl⟩, hg'⟩ := hstep w (Go.ConcN.RW.refl w)
      exact idle hgo (.d3 hg') rfl (by omega)
  | d4 hs =>
    rcases Goes.cases hs with hstop | ⟨m', rfl, hstep⟩
    · obtain ⟨_, hmw, hx⟩ := hstop w (Go.ConcN.RW.refl w)
      obtain ⟨hW3, hoth, e1, e2⟩ := hmode.isLast hi (by omega)
      rw [e1, e2, hst] at hwg
      obtain ⟨g', hgo, q2, hq⟩ := hx (by simpa using hwg)
      have hrun' : g'.status = .running := by
        cases q2 with
        | zero => exact absurd hq.2 (by decide)
        | succ q => exact hq.elim (fun x => absurd x.2 (by decide)) (fun x => x.1)
      refine wOut O ha h hcs hi hg hgo (aside_setCell w (smA D.Wg) _) (hwg.setSm 1) hwk (by omega) (q' := 0) (.quit hq) (by omega) ?_ ?_ (by rw [hde]; simp [deafBehind, semEvents]) ?_ (.inl (by omega))
      · intro e he
        simp [semEvents] at he
        rcases he with rfl | rfl | rfl | rfl
        · exact .inl rfl
        · exact bk_cell _ _ rfl
        · exact bk_cell _ _ rfl
        · exact .inr (.inl rfl)
      · intro jx e he
        rw [hde]
        match jx, he with
        | 0, he => simp [semEvents] at he; subst he; exact .inl rfl
        | 1, _ => exact .inr (by simp [deafBehind, semEvents])
        | 2, _ => exact .inr (by simp [deafBehind, semEvents])
        | 3, he => simp [semEvents] at he; subst he; exact .inl rfl
        | jx + 4, he => simp [semEvents] at he
      · intro tag' ht hw
        have hnb := hw hmw hrun'
        have e3 : tag' = .w3 := by
          rcases ht with rfl | ⟨_, rfl⟩
          · cases tag' <;> first | rfl | exact hW3.elim | exact absurd rfl hnb
          · rfl
        subst e3
        simp only [if_true]
        exact .sema fun a ha => by
          by_cases e : a = i
          · subst e; rw [upd_same]
          · rw [upd_ne s.E _ e]; exact hoth a ha e
    · obtain ⟨g', w', es, hgo, ⟨rfl, rfl⟩, hg'⟩ := hstep w (Go.ConcN.RW.refl w)
      exact idle hgo (.d4 hg') rfl (by omega)
  | quit hs =>
    cases m with
    | zero => rw [hs.1] at hrun; cases hrun
    | succ q2 =>
      rcases hs with ⟨hf, _⟩ | ⟨_, g', es, hmute, hstep, hq⟩
      · rw [hf] at hrun; cases hrun
      · have hbk : ∀ e ∈ es, Bk D.Wg e := fun e he => bk_of_mute (hmute e he)
        have hno : ∀ jx e, es[jx]? = some e → (MemAct.ofEvent e).touch? = none ∨ 0 < deafBehind (s.E i).deaf (es.extract 0 jx) := fun jx e he => .inl (by
          rcases bk_of_mute (Wg := D.Wg) (hmute e (Array.mem_of_getElem? he)) with h1 | h1 | ⟨a, wr, rfl, _⟩
          · rw [ofEvent_loc_mark h1]; rfl
          · rw [ofEvent_loc_mark h1]; rfl
          · have := hmute _ (Array.mem_of_getElem? he); simp [Event.mute] at this)
        exact wOut O ha h hcs hi hg (hstep w) (.refl D.Wg w) hwg hwk (by omega) (q' := 0) (.quit hq) (by omega) hbk hno (by rw [hde]) (fun _ ht _ => (mode_same hmode ⟨1, 0, deafBehind dd es⟩ hst.symm).retag ht) (.inr ⟨hst.symm, by rw [hm]; exact dn_nat q2⟩)
end
end Go.Proofs.Ytgeflnjjppgooaa.Y

namespace Go.Proofs.Ytgeflnjjppgooaa.Y
open Go Go.Conc Go.RowKit Go.Proofs.Ytgeflnjjppgooaa Go.Proofs.Ytgeflnjjppgooaa.Q
open Go.ConcR (KK wgBlock WgAt stA smA rd wr mk Payload DC0 g_of_ofEvents Bk bk_of_mute ofEvent_loc_mark ofEvent_mk)
open Go.ConcN (get_map_set get_map_set_same WgLive PayAt Has RW DWs AtR0 WSit WD upd upd_same upd_ne CTag RelBy Vc Ssum cnt phi pend sumTo sumTo_upd sumTo_upd_out phi_mono phi_retag bk_cell isW3 OpenSt Vc_upd Vc_le others_uncounted le_sumTo Deaf_still Deaf_absent allQuit_of AllQuit)
section
variable {P : Program} {D : Sc} {K : Goroutine → World → Prop} {G0 : Nat} {Sh : Nat → Prop} {wb : World} {s : St} {gs : Array Goroutine} {w w' : World} {sl : Option (Nat × Nat)} {t : Trace} {tag tag' : CTag} {e e' d0 d' : Nat} {k k' : Rk} {a a' : Goroutine} {es : Array Event}
theorem callerStep (ha : gs[0]? = some a) (h : Com P D G0 Sh wb s gs w t d0) (hgo : stepG P true a w = .go a' w' es) {s' : St} (h' : Com P D G0 Sh wb s' ((gs.map (woken P a a' w')).setIfInBounds 0 a') w' (t ++ MemOp.ofEvents 0 a.frame.fn a.frame.place es) d')
    (hj : s'.j = s.j) (hE : s'.E = s.E) (hwk : s'.wk = s.wk) (hF : s'.F = s.F) (hcs' : CSitM P D K tag' s.j e' k' d' a' (s'.V 0) w') (hmode : Go.ConcN.Mode s.j s.E tag' s'.st s'.sm)
    (hlt : phi D.n (Vc s.j s.E) tag' + e' < phi D.n (Vc s.j s.E) tag + e ∨ (phi D.n (Vc s.j s.E) tag' + e' = phi D.n (Vc s.j s.E) tag + e ∧ Dn k' k)) : Falls P D K G0 Sh wb gs w sl t 0 (mu D s tag e k) := by
  have g0 := h.g0
  have hrun := runT_crowd_go (P := P) (sl := sl) (i := 0) ha (by simpa using hgo)
  refine ⟨_, _, mu D s' tag' e' k', hrun, ?_, s', _, w', sl, tag', e', k', d', a', rfl, get_map_set_same _ _ _ (by rw [h.size]; omega), by rw [hj]; exact hcs', h', by rw [hj, hE]; exact hmode, rfl⟩
  simp only [mu, hj, hE, hwk, hF]
  rcases hlt with h1 | ⟨h1, h2⟩
  · exact Lt.num (by omega)
  · rw [show phi D.n (Vc s.j s.E) tag' + Ssum s.j s.E + sumTo s.j (fun i => bit (s.wk i)) + e' = phi D.n (Vc s.j s.E) tag + Ssum s.j s.E + sumTo s.j (fun i => bit (s.wk i)) + e by omega]
    exact Lt.own h2
/-- A step of the library's. -/
theorem cBook (O : PhOk D) (ha : gs[0]? = some a) (h : Com P D G0 Sh wb s gs w t d0) (hgo : stepG P true a w = .go a' w' es) {st' sm' : Int} (hA : Go.Conc.Aside D.Wg w w') (hw : WgAt D.ty D.Wg w' st' sm') (he : ∀ e ∈ es, EvS D 0 e)
    (hd : deafBehind d0 es = d') (hcs' : CSitM P D K tag' s.j e' k' d' a' (s.V 0) w') (hmode : Go.ConcN.Mode s.j s.E tag' st' sm')
    (hlt : phi D.n (Vc s.j s.E) tag' + e' < phi D.n (Vc s.j s.E) tag + e ∨ (phi D.n (Vc s.j s.E) tag' + e' = phi D.n (Vc s.j s.E) tag + e ∧ Dn k' k)) : Falls P D K G0 Sh wb gs w sl t 0 (mu D s tag e k) := by
  subst hd
  have hti := h.tiS (w' := w') (fn := a.frame.fn) (pos := a.frame.place) O (.inl rfl) hA.size he (.inl rfl)
  have hWI := wi_wg h O hA hw
  have h2 := h.caller O (a := a) (a' := a') (vi_wg h hA hw) hWI (fun y _ => up_ext _ _) (hti.weak (fun y b hr => rd_up.1 hr) (fun y ad hr => wr_up.1 hr) fun _ => id) (fun x hx => (he x hx).2.1)
  exact callerStep ha h hgo h2 rfl rfl rfl rfl (hcs'.rely (up_ext _ _) (rl_refl w')) hmode hlt
/-- .. that turns nothing. -/
theorem cIdle (O : PhOk D) (ha : gs[0]? = some a) (h : Com P D G0 Sh wb s gs w t d0) (hgo : stepG P true a w = .go a' w #[]) (hcs' : CSitM P D K tag' s.j e' k' d0 a' (s.V 0) w) (hmode : Go.ConcN.Mode s.j s.E tag' s.st s.sm)
    (hlt : phi D.n (Vc s.j s.E) tag' + e' < phi D.n (Vc s.j s.E) tag + e ∨ (phi D.n (Vc s.j s.E) tag' + e' = phi D.n (Vc s.j s.E) tag + e ∧ Dn k' k)) : Falls P D K G0 Sh wb gs w sl t 0 (mu D s tag e k) :=
  cBook O ha h hgo (.refl D.Wg w) h.wi.wg (by simp) rfl hcs' hmode hlt
/-- A step in its view. -/
theorem cView (O : PhOk D) (ha : gs[0]? = some a) (h : Com P D G0 Sh wb s gs w t d0) {v' : World} (hs : StepTo P true a (s.V 0) a' v') (hmode : Go.ConcN.Mode s.j s.E tag' s.st s.sm)
    (hcs' : ∀ w', CSitM P D K tag' s.j e' k' d0 a' v' w')
    (hlt : phi D.n (Vc s.j s.E) tag' + e' < phi D.n (Vc s.j s.E) tag + e ∨ (phi D.n (Vc s.j s.E) tag' + e' = phi D.n (Vc s.j s.E) tag + e ∧ Dn k' k)) : Falls P D K G0 Sh wb gs w sl t 0 (mu D s tag e k) := by
  obtain ⟨w', es, hgo, hc, he⟩ := hs w (h.vi.view 0 (by omega))
  have hVI := h.vi.step (x := 0) (by omega) hc (h.badlt O) h.wi.size
  have hWI := h.wi.step O h.vi (fun b hb => hb.elim .inl fun hb => .inr (.inl hb)) (y := 0) (by omega) hc
  have hti := h.tiV (fn := a.frame.fn) (pos := a.frame.place) O (x := 0) (by omega) (fun i' e => by omega) hc he
  have h2 := h.caller O (a := a) (a' := a') hVI hWI (fun y _ => by simp only [if_neg (show y + 1 ≠ 0 by omega)]; exact up_ext _ _) hti (fun x hx => (evok_mark (he x hx)).2.2)
  rw [deafBehind_still (fun x hx => ⟨(evok_mark (he x hx)).1, (evok_mark (he x hx)).2.1⟩)] at h2
  exact callerStep ha h hgo h2 rfl rfl rfl rfl (by simp only [if_true]; exact hcs' w') hmode hlt
theorem Com.spawn (h : Com P D G0 Sh wb s gs w t 0) {child : Goroutine} {fn fn' : FuncId} {pos pos' : String} {r : Rk} (hw : GoW P D s.j r [] child (frz (s.V 0))) :
    Com P D G0 Sh wb { s with j := s.j + 1, V := fun y => if y = 0 ∨ y = s.j + 1 then frz (s.V 0) else s.V y, E := Go.ConcN.upd s.E s.j ⟨7, 0, 0⟩, wk := Go.ConcN.upd s.wk s.j true, σ := Go.ConcN.upd s.σ s.j [], F := Go.ConcN.upd s.F (G0 + s.j) r } ((gs.setIfInBounds 0 a').push child) w
      (t ++ #[{ g := 0, fn := fn, pos := pos, act := .go (G0 + s.j) }, { g := G0 + s.j, fn := fn', pos := pos', act := .start }]) 0 := by
  have g0 := h.g0
  have hsz := h.size
  have hst : ∀ op ∈ (#[{ g := 0, fn := fn, pos := pos, act := .go (G0 + s.j) }, { g := G0 + s.j, fn := fn', pos := pos', act := .start }] : Array MemOp), op.act ≠ .mark .disable ∧ op.act ≠ .mark .enable ∧ (∀ ad, op.act ≠ .mark (.release ad)) ∧ (op.g = 0 ∨ op.g = G0 + s.j) := by
    intro op hop
    simp at hop
    rcases hop with rfl | rfl <;> simp
  have hdf : ∀ y, Deaf (t ++ #[{ g := 0, fn := fn, pos := pos, act := .go (G0 + s.j) }, { g := G0 + s.j, fn := fn', pos := pos', act := .start }]) y = Deaf t y := fun y => Deaf_still t y _ fun op hop => ⟨(hst op hop).1, (hst op hop).2.1⟩
  have hab : Deaf t (G0 + s.j) = 0 := h.above (Nat.le_refl _)
  have getO : ∀ y, 0 < y → y < gs.size → ((gs.setIfInBounds 0 a').push child)[y]? = gs[y]? := fun y h1 h2 => by
    rw [Array.getElem?_push_lt (by simpa using h2), ← Array.getElem?_eq_getElem, Array.getElem?_setIfInBounds_ne (by omega)]
  refine ⟨g0, by simp [hsz]; omega, fun y g hy hyG hg => ?_, fun i hi => ?_, ?_, ?_, ?_, fun ad => (h.norel ad).app fun op hop => (hst op hop).2.2.1 ad, by rw [hdf, h.deaf0], fun i hi => ?_, fun i hi hs6 => ?_, fun i hi => ?_, fun i hi hwf => ?_, h.shb, h.shA⟩
  · rw [getO y hy (by omega)] at hg
    obtain ⟨q, h1, h2⟩ := h.old y g hy hyG hg
    exact ⟨q, (upd_ne s.F _ (by omega)).trans h1, by rw [hdf]; exact h2⟩
  · by_cases ei : i = s.j
    · subst ei
      refine ⟨child, ?_, ?_⟩
      · rw [show G0 + s.j = (gs.setIfInBounds 0 a').size by simp [hsz], Array.getElem?_push_size]
      · simp only [upd_same]
        exact .inl ⟨rfl, rfl, rfl, by simp only [or_true, if_true]; exact hw⟩
    · obtain ⟨g, hg, hs⟩ := h.wks i (by simp only at hi; omega)
      refine ⟨g, by rw [getO _ (by omega) (by simp only at hi; omega)]; exact hg, ?_⟩
      have e2 : G0 + i ≠ G0 + s.j := by omega
      have e3 : ¬ (i + 1 = 0 ∨ i + 1 = s.j + 1) := by omega
      simp only [upd_ne s.wk _ ei, upd_ne s.E _ ei, upd_ne s.σ _ ei, upd_ne s.F _ e2, if_neg e3]
      exact hs
  · refine ⟨fun y hy => ?_, fun y z hy hz hne b hl hr => ?_, fun y hy b hb hr => ?_, fun y hy b hb hl => ?_⟩
    · by_cases c : y = 0 ∨ y = s.j + 1
      · simp only [if_pos c]; exact view_frz (h.vi.view 0 (by omega))
      · simp only [if_neg c]; exact h.vi.view y (by simp only at hy; omega)
    · by_cases c : y = 0 ∨ y = s.j + 1
      · simp only [if_pos c] at hl; exact not_liv_frz hl
      · simp only [if_neg c] at hl
        by_cases c2 : z = 0 ∨ z = s.j + 1
        · simp only [if_pos c2, rdb_frz] at hr
          exact h.vi.ex y 0 (by simp only at hy; omega) (by omega) (by omega) b hl hr
        · simp only [if_neg c2] at hr
          exact h.vi.ex y z (by simp only at hy; omega) (by simp only at hz; omega) hne b hl hr
    · by_cases c : y = 0 ∨ y = s.j + 1
      · simp only [if_pos c, rdb_frz] at hr; exact h.vi.bad 0 (by omega) b hb hr
      · simp only [if_neg c] at hr; exact h.vi.bad y (by simp only at hy; omega) b hb hr
    · by_cases c : y = 0 ∨ y = s.j + 1
      · simp only [if_pos c] at hl; exact not_liv_frz hl
      · simp only [if_neg c] at hl; exact h.vi.low y (by simp only at hy; omega) b hb hl
  · refine ⟨h.wi.wg, h.wi.arrs, fun i hi p hp => ?_, h.wi.old, h.wi.tape, h.wi.os, h.wi.output, h.wi.size, h.wi.wgB, h.wi.pay⟩
    by_cases ei : i = s.j
    · subst ei; simp only [upd_same] at hp; cases hp
    · simp only [upd_ne s.σ _ ei] at hp; exact h.wi.sig i (by simp only at hi; omega) p hp
  · refine h.ti.fork ⟨rfl, rfl⟩ ⟨rfl, rfl⟩ (by omega) h.deaf0 hab (fun z b hr => ?_) (fun z ad hr => ?_) (fun z hz => ?_)
    · rcases hr with ⟨rfl, hr⟩ | ⟨i, hi, rfl, hwk, hr⟩
      · simp only [true_or, if_true, rdb_frz] at hr
        exact .inl (.inl ⟨rfl, hr⟩)
      · by_cases ei : i = s.j
        · subst ei
          simp only [or_true, if_true, rdb_frz] at hr
          exact .inr ⟨rfl, .inl ⟨rfl, hr⟩⟩
        · have e3 : ¬ (i + 1 = 0 ∨ i + 1 = s.j + 1) := by omega
          simp only [if_neg e3] at hr
          simp only [upd_ne s.wk _ ei] at hwk
          exact .inl (.inr ⟨i, by simp only at hi; omega, rfl, hwk, hr⟩)
    · rcases hr with ⟨rfl, hr | ⟨i, hi, hr⟩⟩ | ⟨i, hi, rfl, hwk, hr⟩
      · simp only [true_or, if_true] at hr
        exact absurd hr not_liv_frz
      · exact .inl (.inl ⟨rfl, .inr ⟨i, by simp only at hi; omega, hr⟩⟩)
      · by_cases ei : i = s.j
        · subst ei
          simp only [or_true, if_true] at hr
          rcases hr with hr | hr
          · exact absurd hr not_liv_frz
          · exact .inr ⟨rfl, .inl ⟨rfl, .inr ⟨s.j, Nat.le_refl _, hr⟩⟩⟩
        · have e3 : ¬ (i + 1 = 0 ∨ i + 1 = s.j + 1) := by omega
          simp only [if_neg e3] at hr
          simp only [upd_ne s.wk _ ei] at hwk
          exact .inl (.inr ⟨i, by simp only at hi; omega, rfl, hwk, hr⟩)
    · rcases hz with rfl | ⟨i, hi, rfl⟩
      · exact .inl (.inl rfl)
      · by_cases ei : i = s.j
        · subst ei; exact .inr ⟨rfl, .inl rfl⟩
        · exact .inl (.inr ⟨i, by simp only at hi; omega, rfl⟩)
  · rw [hdf]
    by_cases ei : i = s.j
    · subst ei; simp only [upd_same]; exact hab
    · simp only [upd_ne s.E _ ei]; exact h.deafW i (by simp only at hi; omega)
  · by_cases ei : i = s.j
    · subst ei; simp only [upd_same] at hs6; omega
    · simp only [upd_ne s.E _ ei] at hs6
      have hij : i < s.j := by simp only at hi; omega
      obtain ⟨r, h1, h2⟩ := h.rel i hij hs6
      exact ⟨r, h1, h2.appNot fun op hop => by rcases (hst op hop).2.2.2 with e | e <;> omega⟩
  · by_cases ei : i = s.j
    · subst ei; exact h.reln s.j fun h => by omega
    · simp only [upd_ne s.E _ ei] at hi
      exact h.reln i fun h1 => hi (by omega)
  · by_cases ei : i = s.j
    · subst ei; simp only [upd_same] at hwf; cases hwf
    · have e3 : ¬ (i + 1 = 0 ∨ i + 1 = s.j + 1) := by omega
      simp only [upd_ne s.wk _ ei] at hwf
      simp only [upd_ne s.σ _ ei, if_neg e3]
      exact h.fin i (by simp only at hi; omega) hwf
end
end Go.Proofs.Ytgeflnjjppgooaa.Y
