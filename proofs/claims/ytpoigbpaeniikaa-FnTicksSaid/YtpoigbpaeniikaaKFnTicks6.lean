/- Own texts of this claim, merged: WTj. -/
import Derived.KernelRfl
import Derived.Test.YtpoigbpaeniikaaKFnTicks5
namespace Go.Proofs.Ytpoigbpaeniikaa
open Go.RowKit
set_option linter.unusedVariables false
set_option linter.unusedSimpArgs false
set_option maxRecDepth 20000

theorem known4_Tj : Known Try.prog 4 := Known.mk' Try.func4 (by kernel_rfl)
theorem known5_Tj : Known Try.prog 5 := Known.mk' Try.func5 (by kernel_rfl)
theorem zero26_Tj : (Try.prog.info? 26).bind (·.zero) = some (Value.agg #[Value.slice none 0 0, Value.slice none 0 0, Value.slice none 0 0]) := by kernel_rfl
theorem sz26_Tj : (Try.prog.info? 26).map (·.size) = some 3 := by kernel_rfl
theorem sz24_Tj : (Try.prog.info? 24).map (·.size) = some 1 := by kernel_rfl
theorem fb24_Tj : flatB Try.prog 24 = true := by kernel_rfl
theorem mixed_Tj : Try.prog.follows .mixedOrders = true := by kernel_rfl
theorem known6_Tj : Known Try.prog 6 := Known.mk' Try.func6 (by kernel_rfl)
theorem elt34_Tj : Elt Try.prog 34 [Value.float .f32 0] 4 := Elt.mk' (by kernel_rfl) (by decide)
theorem lay30_Tj : Lay Try.prog 30 [Value.slice none 0 0, Value.slice none 0 0, Value.slice none 0 0, Value.slice none 0 0, Value.slice none 0 0] [(0, 3), (3, 1), (4, 1)] := Lay.mk' (by kernel_rfl) (by kernel_rfl)
theorem zero30_Tj : (Try.prog.info? 30).bind (·.zero) = some (Value.agg #[Value.slice none 0 0, Value.slice none 0 0, Value.slice none 0 0, Value.slice none 0 0, Value.slice none 0 0]) := by kernel_rfl
theorem sz30_Tj : (Try.prog.info? 30).map (·.size) = some 5 := by kernel_rfl
theorem known7_Tj : Known Try.prog 7 := Known.mk' Try.func7 (by kernel_rfl)
theorem known8_Tj : Known Try.prog 8 := Known.mk' Try.func8 (by kernel_rfl)
theorem known9_Tj : Known Try.prog 9 := Known.mk' Try.func9 (by kernel_rfl)
theorem known10_Tj : Known Try.prog 10 := Known.mk' Try.func10 (by kernel_rfl)
theorem sz34_Tj : (Try.prog.info? 34).map (·.size) = some 1 := by kernel_rfl
theorem fb34_Tj : flatB Try.prog 34 = true := by kernel_rfl
theorem known11_Tj : Known Try.prog 11 := Known.mk' Try.func11 (by kernel_rfl)
theorem known12_Tj : Known Try.prog 12 := Known.mk' Try.func12 (by kernel_rfl)
theorem known13_Tj : Known Try.prog 13 := Known.mk' Try.func13 (by kernel_rfl)
attribute [local irreducible] fop fcmp fconv fneg fabs List.getD EF XF BS BF solC nI nQ sI eT eI eO eG tks bW bV mA sqL rtL fst0 qw hqw w2w g2w uw

theorem c_energyT {w : World} {ar ag ac aq ai : Option Addr} {cr cg cc cq ci n : Nat} {rs gs ls qs js : List Nat} (hAr : Cl w ar (fl rs)) (hAg : Cl w ag (fl gs)) (hAc : Cl w ac (fl ls)) (hAq : Cl w aq (fl qs)) (hAi : Cl w ai (fl js)) (hc : CirOk n rs gs ls) (hq : qs.length = n) (hj : js.length = n) : Pure Try.prog 13 [.agg #[.slice ar n cr, .slice ag n cg, .slice ac (n * n) cc, .slice aq n cq, .slice ai n ci]] w (.tuple #[.float .f32 (eG gs qs (eO n ls js n) n), .bool true]) := by
  have h := c_energy (cr := cr) (cg := cg) (cc := cc) (cq := cq) (ci := ci) hAr hAg hAc hAq hAi hc hq hj
  rw [hc.hr, hc.hg, hc.hl, hq, hj] at h
  exact h
theorem c_validT {w : World} {ar ag ac aq ai : Option Addr} {cr cg cc cq ci n : Nat} {rs gs ls qs js : List Nat} (hAr : Cl w ar (fl rs)) (hAg : Cl w ag (fl gs)) (hAc : Cl w ac (fl ls)) (hAq : Cl w aq (fl qs)) (hAi : Cl w ai (fl js)) (hc : CirOk n rs gs ls) (hq : qs.length = n) (hj : js.length = n) : Pure Try.prog 9 [.agg #[.slice ar n cr, .slice ag n cg, .slice ac (n * n) cc, .slice aq n cq, .slice ai n ci]] w (.bool true) := by
  have h := c_validL (w := w) (aq := aq) (ai := ai) (cr := cr) (cg := cg) (cc := cc) (cq := cq) (ci := ci) hAr hAg hAc hc hq hj
  rw [hc.hr, hc.hg, hc.hl, hq, hj] at h
  exact h
theorem c_stepT {w : World} {ar ag ac aq ai : Option Addr} {cr cg cc cq ci n : Nat} {rs gs ls qs js : List Nat} {av : Option Addr} {cv : Nat} {vs : List Nat} (hAr : Cl w ar (fl rs)) (hAg : Cl w ag (fl gs)) (hAc : Cl w ac (fl ls)) (hAq : Cl w aq (fl qs)) (hAi : Cl w ai (fl js)) (hAv : Cl w av (fl vs)) {tk : Nat} (hT : above tk = true) (hc : CirOk n rs gs ls) (hq : qs.length = n) (hj : js.length = n) (hv : vs.length = n) (hS : SOk n (mA n rs ls tk) (bV n gs ls qs js vs tk)) : New Try.prog 10 [.agg #[.slice ar n cr, .slice ag n cg, .slice ac (n * n) cc, .slice aq n cq, .slice ai n ci], .slice av n cv, .float .f32 tk] w (fun p : ((Option Addr × Nat) × (Option Addr × Nat) × (Option Addr × Nat)) × (Option Addr × Nat) × (Option Addr × Nat) => .tuple #[.agg #[.slice p.1.1.1 n p.1.1.2, .slice p.1.2.1.1 n p.1.2.1.2, .slice p.1.2.2.1 (n * n) p.1.2.2.2, .slice p.2.1.1 n p.2.1.2, .slice p.2.2.1 n p.2.2.2], .bool true]) (fun p => [⟨p.1.1.1, fl rs, p.1.1.2 * 1, 34⟩, ⟨p.1.2.1.1, fl gs, p.1.2.1.2 * 1, 34⟩, ⟨p.1.2.2.1, fl ls, p.1.2.2.2 * 1, 34⟩, ⟨p.2.1.1, fl (nQ n rs gs ls qs js vs tk n), p.2.1.2 * 1, 34⟩, ⟨p.2.2.1, fl (nI n rs gs ls qs js vs tk n), p.2.2.2 * 1, 34⟩]) := by
  have h := c_stepLoops (cr := cr) (cg := cg) (cc := cc) (cq := cq) (ci := ci) (cv := cv) hAr hAg hAc hAq hAi hAv hc hq hj hv hT hS
  rw [hc.hr, hc.hg, hc.hl, hq, hj, hv] at h
  exact h
theorem c_runT {w : World} {ar ag ac aq ai : Option Addr} {cr cg cc cq ci n : Nat} {rs gs ls qs js : List Nat} {av : Option Addr} {cv : Nat} {vs : List Nat} (hAr : Cl w ar (fl rs)) (hAg : Cl w ag (fl gs)) (hAc : Cl w ac (fl ls)) (hAq : Cl w aq (fl qs)) (hAi : Cl w ai (fl js)) (hAv : Cl w av (fl vs)) {tk ticks : Nat} (hT : above tk = true) (hc : CirOk n rs gs ls) (hq : qs.length = n) (hj : js.length = n) (hv : vs.length = n) (ht : ticks ≤ 64) (hS : ∀ k, k < ticks → SOk n (mA n rs ls tk) (bV n gs ls (tks n rs gs ls vs tk (qs, js) k).1 (tks n rs gs ls vs tk (qs, js) k).2 vs tk)) : New Try.prog 8 [.agg #[.slice ar n cr, .slice ag n cg, .slice ac (n * n) cc, .slice aq n cq, .slice ai n ci], .slice av n cv, .float .f32 tk, .int .i64 (ticks : Int)] w (fun p : (((Option Addr × Nat) × (Option Addr × Nat) × (Option Addr × Nat)) × (Option Addr × Nat) × (Option Addr × Nat)) × (Option Addr × Nat) => .tuple #[.agg #[.slice p.1.1.1.1 n p.1.1.1.2, .slice p.1.1.2.1.1 n p.1.1.2.1.2, .slice p.1.1.2.2.1 (n * n) p.1.1.2.2.2, .slice p.1.2.1.1 n p.1.2.1.2, .slice p.1.2.2.1 n p.1.2.2.2], .slice p.2.1 ticks p.2.2, .bool true]) (fun p => [⟨p.1.1.1.1, fl rs, p.1.1.1.2 * 1, 34⟩, ⟨p.1.1.2.1.1, fl gs, p.1.1.2.1.2 * 1, 34⟩, ⟨p.1.1.2.2.1, fl ls, p.1.1.2.2.2 * 1, 34⟩, ⟨p.1.2.1.1, fl (tks n rs gs ls vs tk (qs, js) ticks).1, p.1.2.1.2 * 1, 34⟩, ⟨p.1.2.2.1, fl (tks n rs gs ls vs tk (qs, js) ticks).2, p.1.2.2.2 * 1, 34⟩, ⟨p.2.1, fl (fst0 n rs gs ls vs tk (qs, js) ticks), p.2.2 * 1, 34⟩]) := by
  have h := c_runLoops (cr := cr) (cg := cg) (cc := cc) (cq := cq) (ci := ci) (cv := cv) hAr hAg hAc hAq hAi hAv hc hq hj hv hT ht hS
  rw [hc.hr, hc.hg, hc.hl, hq, hj, hv] at h
  exact h
theorem c_b10LT {w : World} {a b : Option Addr} {c d n : Nat} {xs : List Nat} (hA : Cl w a (fl xs)) (hB : Cl w b (fl xs)) (hl : xs.length = n) (hX : ∀ x ∈ xs, Can .f32 x) (hn : n ≤ 1050000) : Pure Try.prog 12 [.slice a n c, .slice b n d] w (.bool true) := by
  subst hl
  exact c_b10List hA hB hX hn
theorem c_b10XT {w : World} {a : Option Addr} {c m : Nat} {bs : List Int} (hA : Cl w a (bl bs)) (hb : Bytes bs) (hl : bs.length ≤ 2000000) (hm : m ≤ 1000) : New Try.prog 6 [.slice a bs.length c, .int .i64 (m : Int)] w (fun x : {x : (Option Addr × Nat) × List Nat // x.2.length = m ∧ ∀ y ∈ x.2, Q17 y} => .slice x.1.1.1 m x.1.1.2) (fun x => [⟨x.1.1.1, fl x.1.2, x.1.1.2 * 1, 34⟩]) := by
  have h := c_b10X (c := c) (m := m) hA hb hl hm
  rw [show (fun x : {x : (Option Addr × Nat) × List Nat // x.2.length = m ∧ ∀ y ∈ x.2, Q17 y} => Value.slice x.1.1.1 x.1.2.length x.1.1.2) = (fun x => .slice x.1.1.1 m x.1.1.2) from funext fun x => by rw [x.2.1]] at h
  exact h
theorem law_Ticks {w : World} {a b : Option Addr} {c d : Nat} {bs cs : List Int} (hA : Cl w a (bl bs)) (hB : Cl w b (bl cs)) (hb : Bytes bs) (hcb : Bytes cs) : Pure Try.prog 3 [.slice a bs.length c, .slice b cs.length d] w (.bool true) := by
  refine Pure.enter Try.func3 rfl Try.ntmps3 (Nat.le_of_ble_eq_true rfl) ?_
  refine V.seq ?_
  refine V.region ?_
  refine VL.r (.inl rfl) rfl (by decide) (yr_assign (u := .bool false) rfl rfl) ?_
  refine VL.nil ?_
  refine VE.then_wp ?_
  refine V.seq ?_
  refine V.seq ?_
  refine V.region ?_
  refine VL.r (.inl rfl) rfl (by decide) (yr_move rfl rfl) ?_
  refine VL.r (.inl rfl) rfl (by decide) (yr_move rfl rfl) ?_
  refine VL.q (.inl rfl) rfl (by decide) (yq_callf rfl known4_Tj (.cons rfl (.cons rfl .nil)) (fun w hw => c_b10Long)) ?_
  refine VL.nil ?_
  refine VE.then_wp ?_
  refine V.cond rfl (fun h1 => ?_) (fun h1 => ?_)
  · skip
    refine V.seq ?_
    refine V.region ?_
    refine VL.r (.inl rfl) rfl (by decide) (yr_assign (u := .bool true) rfl rfl) ?_
    refine VL.nil ?_
    refine VE.then_wp ?_
    refine V.ret ?_
    refine VE.then_ret ?_
    refine ret1 rfl rfl (fun w1 hw => ?_)
    first | exact ⟨congrArg Value.bool hen.2.2, hw.below⟩ | exact ⟨rfl, hw.below⟩
  · skip
    rw [Bool.or_eq_false_iff, decide_eq_false_iff_not, decide_eq_false_iff_not] at h1
    have hl1 := h1.1
    have hl2 := h1.2
    refine V.skip ?_
    refine VE.then_wp ?_
    refine V.seq ?_
    refine V.region ?_
    refine VL.r (.inl rfl) rfl (by decide) (yr_move rfl rfl) ?_
    refine VL.new (.inl rfl) rfl (by decide) (yn_callf rfl known5_Tj (.cons rfl .nil) (fun w hw => (c_b10Circ (by first | exact Sees.root (by assumption) w hw | exact Sees.own (by repeat (first | exact List.mem_cons_self | exact List.mem_append_left _ (by assumption) | apply List.mem_cons_of_mem | apply List.mem_append_right)) w hw) hb (by omega)))) ?_
    rintro ⟨⟨⟨⟨a29, c29⟩, ⟨d29, e29⟩, ⟨f29, g29⟩⟩, ⟨rs29, gs29, ls29⟩, n29⟩, hc29⟩
    dsimp only at hc29
    have hn1 := hc29.n1
    have hn3 := hc29.n3
    have hnn : n29 * n29 ≤ 9 := Nat.mul_le_mul hn3 hn3
    haveI hne29 : Nonempty {x : (Option Addr × Nat) × List Nat // x.2.length = n29 ∧ ∀ y ∈ x.2, Q17 y} := ⟨⟨((none, 0), List.replicate n29 (qw 0)), List.length_replicate, fun y hy => ⟨0, by decide, (List.mem_replicate.1 hy).2⟩⟩⟩
    refine VL.new1 (.inl rfl) rfl (by decide) (yn_alloc rfl zero26_Tj rfl) ?_
    intro b5
    refine VL.s (.inl rfl) rfl (yc_store rfl sz26_Tj rfl rfl (by repeat (first | exact UpdF.here | apply UpdF.there | apply UpdF.thereS)) (.inr ⟨rfl, rfl⟩) rfl (by first | exact Nat.le_of_ble_eq_true rfl | simp) (by decide) rfl) ?_
    rintro ⟨⟩
    refine VL.nil ?_
    refine VE.then_wp ?_
    refine V.seq ?_
    refine V.region ?_
    refine VL.r (.inl rfl) rfl (by decide) (yr_fieldAddr rfl Try.underlying26 rfl rfl sz24_Tj (by decide) rfl) ?_
    refine VL.q (.inl rfl) rfl (by decide) (yq_load rfl fb24_Tj rfl (by first | exact Sees.root (by assumption) | exact Sees.own (by repeat (first | exact List.mem_cons_self | exact List.mem_append_left _ (by assumption) | apply List.mem_cons_of_mem | apply List.mem_append_right)) | exact Sees.root (hR _ (by omega)) | exact Sees.own (RowsIn.mem (by repeat (first | exact RowsIn.here | exact RowsIn.last | apply RowsIn.there | apply RowsIn.thereS)) _ (by omega)) | exact Sees.own (WRowsIn.mem (by repeat (first | exact WRowsIn.here | exact WRowsIn.last | apply WRowsIn.there | apply WRowsIn.thereS)) _ (by omega))) rfl) ?_
    refine VL.r (.inl rfl) rfl (by decide) (yr_len rfl Try.underlying24 rfl) ?_
    refine VL.r (.inl rfl) rfl (by decide) (yr_assign rfl rfl) ?_
    refine VL.nil ?_
    refine VE.then_wp ?_
    refine V.seq ?_
    refine Dr.V.drawR [(0, 5), (1, 5), (3, 5), (4, 5), (5, 1), (2, 2), (6, 5), (7, 2), (8, 3)] [(2, ((fun b => .slice (some ⟨b, 0, none⟩) n29 n29), (fun b => ⟨some ⟨b, 0, none⟩, cycle [Value.float .f32 0] n29, n29 * 1, 34⟩))), (7, ((fun b => .pointer (some (adr (some ⟨b, 0, none⟩) 0))), (fun b => ⟨some ⟨b, 0, none⟩, [Value.slice none 0 0, Value.slice none 0 0, Value.slice none 0 0, Value.slice none 0 0, Value.slice none 0 0], 5, 30⟩)))] [] _ mixed_Tj (by kernel_rfl) (fun w hw => hw) ?_
    refine Dr.SW.p rfl (.inl rfl) rfl (by decide) (yq_loadS rfl Try.underlying26 sz26_Tj rfl (by first | exact Sees.root (by assumption) | exact Sees.own (by (try simp only [List.append_assoc, List.cons_append, List.nil_append]); repeat (first | exact List.mem_cons_self | exact List.mem_append_left _ (by assumption) | apply List.mem_cons_of_mem | apply List.mem_append_right)) | exact Sees.root (hR _ (by omega)) | exact Sees.own (RowsIn.mem (by (try simp only [List.append_assoc, List.cons_append, List.nil_append]); repeat (first | exact RowsIn.here | exact RowsIn.last | apply RowsIn.there | apply RowsIn.thereS)) _ (by omega)) | exact Sees.own (WRowsIn.mem (by (try simp only [List.append_assoc, List.cons_append, List.nil_append]); repeat (first | exact WRowsIn.here | exact WRowsIn.last | apply WRowsIn.there | apply WRowsIn.thereS)) _ (by omega))) rfl rfl rfl) ?_
    refine Dr.SW.r rfl (.inl rfl) rfl (by decide) (yr_move rfl rfl) ?_
    refine Dr.SW.r rfl (.inl rfl) rfl (by decide) (yr_move rfl rfl) ?_
    refine Dr.SW.r rfl (.inl rfl) rfl (by decide) (yr_move rfl rfl) ?_
    refine Dr.SW.new rfl (.inl rfl) rfl (by decide) (yn_callf rfl known6_Tj (.cons rfl (.cons rfl .nil)) (fun w hw => (c_b10XT (m := n29) (by first | exact Sees.root (by assumption) w hw | exact Sees.own (by (try simp only [List.append_assoc, List.cons_append, List.nil_append]); repeat (first | exact List.mem_cons_self | exact List.mem_append_left _ (by assumption) | apply List.mem_cons_of_mem | apply List.mem_append_right)) w hw) hcb (by omega) (by have := hc29.n3; (try dsimp only); omega)))) ?_
    rintro ⟨⟨⟨a38, c38⟩, xs38⟩, hl38, hq38⟩
    dsimp only at hl38 hq38
    refine Dr.SW.a rfl rfl rfl (by decide) rfl (fun w0 => (yn_makeSlicez 1 rfl rfl Try.underlying24 elt34_Tj rfl rfl rfl (by (try dsimp only); omega) (by (try dsimp only); omega))) ?_
    intro b35
    refine Dr.SW.r rfl (.inl rfl) rfl (by decide) (yr_build rfl lay30_Tj rfl (.cons rfl (.cons rfl (.cons rfl .nil))) (by first | (simp; done) | (simp [vv]; done) | (simp [cn, cn1, cn0]; done) | (subst_vars; simp; done)) rfl) ?_
    refine Dr.SW.a rfl rfl rfl (by decide) rfl (fun w0 => (yn_alloc rfl zero30_Tj rfl)) ?_
    intro b7
    refine Dr.SW.s rfl (.inl rfl) rfl (yc_store rfl sz30_Tj rfl rfl (Dr.UpdF.app (by repeat (first | exact UpdF.here | apply UpdF.there | apply UpdF.thereS))) (.inr ⟨rfl, rfl⟩) rfl (by first | exact Nat.le_of_ble_eq_true rfl | simp) (by decide) rfl) ?_
    rintro ⟨⟩
    refine Dr.SW.done ?_
    refine Dr.eqO (by simp only [List.append_nil, List.append_assoc, List.cons_append, List.nil_append] <;> rfl) ?_
    refine VE.then_wp ?_
    refine V.seq ?_
    refine V.region ?_
    refine VL.r (.inl rfl) rfl (by decide) (yr_move rfl rfl) ?_
    refine VL.r (.inl rfl) rfl (by decide) (yr_move rfl rfl) ?_
    refine VL.new (.inl rfl) rfl (by decide) (yn_callf rfl known6_Tj (.cons rfl (.cons rfl .nil)) (fun w hw => (c_b10XT (m := n29) (by first | exact Sees.root (by assumption) w hw | exact Sees.own (by repeat (first | exact List.mem_cons_self | exact List.mem_append_left _ (by assumption) | apply List.mem_cons_of_mem | apply List.mem_append_right)) w hw) hb (by omega) (by have := hc29.n3; (try dsimp only); omega)))) ?_
    rintro ⟨⟨⟨a42, c42⟩, xs42⟩, hl42, hq42⟩
    dsimp only at hl42 hq42
    refine VL.r (.inl rfl) rfl (by decide) (yr_assign rfl rfl) ?_
    refine VL.nil ?_
    refine VE.then_wp ?_
    refine V.seq ?_
    refine V.region ?_
    refine VL.r (.inl rfl) rfl (by decide) (yr_move rfl rfl) ?_
    refine VL.new (.inl rfl) rfl (by decide) (yn_callf rfl known7_Tj (.cons rfl (.cons rfl (.cons rfl .nil))) (fun w hw => (c_b10At (k := 0) (m := 5) (by first | exact Sees.root (by assumption) w hw | exact Sees.own (by repeat (first | exact List.mem_cons_self | exact List.mem_append_left _ (by assumption) | apply List.mem_cons_of_mem | apply List.mem_append_right)) w hw) hcb (by omega) (by decide) (by omega)))) ?_
    rintro ⟨x44, hx44⟩
    refine VL.r (.inl rfl) rfl (by decide) (yr_assign rfl rfl) ?_
    refine VL.nil ?_
    refine VE.then_wp ?_
    refine V.seq ?_
    refine V.region ?_
    refine VL.q (.inl rfl) rfl (by decide) (yq_loadS rfl Try.underlying30 sz30_Tj rfl (by first | exact Sees.root (by assumption) | exact Sees.own (by repeat (first | exact List.mem_cons_self | exact List.mem_append_left _ (by assumption) | apply List.mem_cons_of_mem | apply List.mem_append_right)) | exact Sees.root (hR _ (by omega)) | exact Sees.own (RowsIn.mem (by repeat (first | exact RowsIn.here | exact RowsIn.last | apply RowsIn.there | apply RowsIn.thereS)) _ (by omega)) | exact Sees.own (WRowsIn.mem (by repeat (first | exact WRowsIn.here | exact WRowsIn.last | apply WRowsIn.there | apply WRowsIn.thereS)) _ (by omega))) rfl rfl rfl) ?_
    refine VL.r (.inl rfl) rfl (by decide) (yr_move rfl rfl) ?_
    refine VL.r (.inl rfl) rfl (by decide) (yr_move rfl rfl) ?_
    refine VL.new (.inl rfl) rfl (by decide) (yn_callf rfl known8_Tj (.cons rfl (.cons rfl (.cons rfl (.cons rfl .nil)))) (fun w hw => (c_runT (tk := 1048576000) (n := n29) (ticks := x44) (rs := rs29) (gs := gs29) (ls := ls29) (qs := List.replicate n29 0) (js := xs38) (vs := xs42) (by first | exact Sees.root (by assumption) w hw | exact Sees.own (by repeat (first | exact List.mem_cons_self | exact List.mem_append_left _ (by assumption) | apply List.mem_cons_of_mem | apply List.mem_append_right)) w hw) (by first | exact Sees.root (by assumption) w hw | exact Sees.own (by repeat (first | exact List.mem_cons_self | exact List.mem_append_left _ (by assumption) | apply List.mem_cons_of_mem | apply List.mem_append_right)) w hw) (by first | exact Sees.root (by assumption) w hw | exact Sees.own (by repeat (first | exact List.mem_cons_self | exact List.mem_append_left _ (by assumption) | apply List.mem_cons_of_mem | apply List.mem_append_right)) w hw) (by rw [← fl_zeros]; exact (by first | exact Sees.root (by assumption) w hw | exact Sees.own (by repeat (first | exact List.mem_cons_self | exact List.mem_append_left _ (by assumption) | apply List.mem_cons_of_mem | apply List.mem_append_right)) w hw)) (by first | exact Sees.root (by assumption) w hw | exact Sees.own (by repeat (first | exact List.mem_cons_self | exact List.mem_append_left _ (by assumption) | apply List.mem_cons_of_mem | apply List.mem_append_right)) w hw) (by first | exact Sees.root (by assumption) w hw | exact Sees.own (by repeat (first | exact List.mem_cons_self | exact List.mem_append_left _ (by assumption) | apply List.mem_cons_of_mem | apply List.mem_append_right)) w hw) (by decide +kernel) hc29.ok List.length_replicate hl38 hl42 (by omega) (fun k hk => hc29.sok (tf_bd hq42 hl42) (tf_bd hq38 hl38) (by omega))))) ?_
    rintro ⟨⟨⟨⟨a49, c49⟩, ⟨d49, e49⟩, f49, g49⟩, ⟨h49, i49⟩, ⟨j49, k49⟩⟩, l49, m49⟩
    refine VL.r (.inl rfl) rfl (by decide) (yr_move rfl rfl) ?_
    refine VL.r (.inl rfl) rfl (by decide) (yr_extract rfl rfl rfl (by nofun)) ?_
    refine VL.r (.inl rfl) rfl (by decide) (yr_extract rfl rfl rfl (by nofun)) ?_
    refine VL.r (.inl rfl) rfl (by decide) (yr_extract rfl rfl rfl (by nofun)) ?_
    refine VL.new1 (.inl rfl) rfl (by decide) (yn_alloc rfl zero30_Tj rfl) ?_
    intro b10
    refine VL.s (.inl rfl) rfl (yc_store rfl sz30_Tj rfl rfl (by repeat (first | exact UpdF.here | apply UpdF.there | apply UpdF.thereS)) (.inr ⟨rfl, rfl⟩) rfl (by first | exact Nat.le_of_ble_eq_true rfl | simp) (by decide) rfl) ?_
    rintro ⟨⟩
    refine VL.r (.inl rfl) rfl (by decide) (yr_assign rfl rfl) ?_
    refine VL.r (.inl rfl) rfl (by decide) (yr_assign rfl rfl) ?_
    refine VL.nil ?_
    refine VE.then_wp ?_
    refine V.seq ?_
    refine V.seq ?_
    refine V.region ?_
    refine VL.r (.inl rfl) rfl (by decide) (yr_move rfl rfl) ?_
    refine VL.r (.inl rfl) rfl (by decide) (yr_not rfl rfl) ?_
    refine VL.r (.inl rfl) rfl (by decide) (yr_move rfl rfl) ?_
    refine VX.split 55 _ rfl (fun h2 => ?_) (fun h2 => ?_)
    · skip
      replace h2 := bnot_t h2
      cases h2
    · skip
      replace h2 := bnot_f h2
      refine VL.r (.inr ⟨_, _, _, rfl, rfl, rfl⟩) rfl (by decide) (yr_move rfl rfl) ?_
      refine VL.r (.inr ⟨_, _, _, rfl, rfl, rfl⟩) rfl (by decide) (yr_len rfl Try.underlying24 rfl) ?_
      refine VL.r (.inr ⟨_, _, _, rfl, rfl, rfl⟩) rfl (by decide) (yr_move rfl rfl) ?_
      refine VL.r (.inr ⟨_, _, _, rfl, rfl, rfl⟩) rfl (by decide) (yr_icmp rfl (.inr (.inl rfl)) rfl rfl) ?_
      refine VL.r (.inl rfl) rfl (by decide) (yr_pick_f rfl rfl rfl) ?_
      refine VL.r (.inl rfl) rfl (by decide) (yr_move rfl rfl) ?_
      refine VX.split 61 _ rfl (fun h3 => ?_) (fun h3 => ?_)
      · skip
        replace h3 := ic_neq h3
        exfalso; (try dsimp only at h3); omega
      · skip
        replace h3 := ic_neq' h3
        refine VL.q (.inr ⟨_, _, _, rfl, rfl, rfl⟩) rfl (by decide) (yq_loadS rfl Try.underlying30 sz30_Tj rfl (by first | exact Sees.root (by assumption) | exact Sees.own (by repeat (first | exact List.mem_cons_self | exact List.mem_append_left _ (by assumption) | apply List.mem_cons_of_mem | apply List.mem_append_right)) | exact Sees.root (hR _ (by omega)) | exact Sees.own (RowsIn.mem (by repeat (first | exact RowsIn.here | exact RowsIn.last | apply RowsIn.there | apply RowsIn.thereS)) _ (by omega)) | exact Sees.own (WRowsIn.mem (by repeat (first | exact WRowsIn.here | exact WRowsIn.last | apply WRowsIn.there | apply WRowsIn.thereS)) _ (by omega))) rfl rfl rfl) ?_
        refine VL.q (.inr ⟨_, _, _, rfl, rfl, rfl⟩) rfl (by decide) (yq_callf rfl known9_Tj (.cons rfl .nil) (fun w hw => (c_validT (n := n29) (rs := rs29) (gs := gs29) (ls := ls29) (qs := List.replicate n29 0) (js := xs38) (by first | exact Sees.root (by assumption) w hw | exact Sees.own (by repeat (first | exact List.mem_cons_self | exact List.mem_append_left _ (by assumption) | apply List.mem_cons_of_mem | apply List.mem_append_right)) w hw) (by first | exact Sees.root (by assumption) w hw | exact Sees.own (by repeat (first | exact List.mem_cons_self | exact List.mem_append_left _ (by assumption) | apply List.mem_cons_of_mem | apply List.mem_append_right)) w hw) (by first | exact Sees.root (by assumption) w hw | exact Sees.own (by repeat (first | exact List.mem_cons_self | exact List.mem_append_left _ (by assumption) | apply List.mem_cons_of_mem | apply List.mem_append_right)) w hw) (by rw [← fl_zeros]; exact (by first | exact Sees.root (by assumption) w hw | exact Sees.own (by repeat (first | exact List.mem_cons_self | exact List.mem_append_left _ (by assumption) | apply List.mem_cons_of_mem | apply List.mem_append_right)) w hw)) (by first | exact Sees.root (by assumption) w hw | exact Sees.own (by repeat (first | exact List.mem_cons_self | exact List.mem_append_left _ (by assumption) | apply List.mem_cons_of_mem | apply List.mem_append_right)) w hw) hc29.ok List.length_replicate hl38))) ?_
        refine VL.r (.inr ⟨_, _, _, rfl, rfl, rfl⟩) rfl (by decide) (yr_not rfl rfl) ?_
        refine VL.r (.inl rfl) rfl (by decide) (yr_pick_f rfl rfl rfl) ?_
        refine VL.nil ?_
        refine VE.then_wp ?_
        refine V.cond rfl (fun h4 => ?_) (fun h4 => ?_)
        · skip
          replace h4 := bnot_t h4
          cases h4
        · skip
          replace h4 := bnot_f h4
          refine V.skip ?_
          refine VE.then_wp ?_
          refine V.seq ?_
          refine V.region ?_
          refine VL.q (.inl rfl) rfl (by decide) (yq_loadS rfl Try.underlying30 sz30_Tj rfl (by first | exact Sees.root (by assumption) | exact Sees.own (by repeat (first | exact List.mem_cons_self | exact List.mem_append_left _ (by assumption) | apply List.mem_cons_of_mem | apply List.mem_append_right)) | exact Sees.root (hR _ (by omega)) | exact Sees.own (RowsIn.mem (by repeat (first | exact RowsIn.here | exact RowsIn.last | apply RowsIn.there | apply RowsIn.thereS)) _ (by omega)) | exact Sees.own (WRowsIn.mem (by repeat (first | exact WRowsIn.here | exact WRowsIn.last | apply WRowsIn.there | apply WRowsIn.thereS)) _ (by omega))) rfl rfl rfl) ?_
          refine VL.new1 (.inl rfl) rfl (by decide) (yn_alloc rfl zero30_Tj rfl) ?_
          intro b13
          refine VL.s (.inl rfl) rfl (yc_store rfl sz30_Tj rfl rfl (by repeat (first | exact UpdF.here | apply UpdF.there | apply UpdF.thereS)) (.inr ⟨rfl, rfl⟩) rfl (by first | exact Nat.le_of_ble_eq_true rfl | simp) (by decide) rfl) ?_
          rintro ⟨⟩
          refine VL.nil ?_
          refine VE.then_wp ?_
          refine V.seq ?_
          refine V.seq ?_
          refine V.region ?_
          refine VL.r (.inl rfl) rfl (by decide) (yr_assign (u := .int .i64 0) rfl rfl) ?_
          refine VL.nil ?_
          refine VE.then_wp ?_
          refine V.block ?_
          refine V.loopc (G := Nat × (List Ent) × (Option Addr) × Nat × (Option Addr) × Nat × (Option Addr) × Nat × (Option Addr) × Nat × (Option Addr) × Nat) [(5, _), (6, _), (7, _), (8, _), (9, _), (10, _), (11, _), (13, _)] (fun ⟨k, X, x1, y1, x2, y2, x3, y3, x4, y4, x5, y5⟩ => k ≤ x44 ∧ Sees w (⟨a29, fl rs29, c29 * 1, 34⟩ :: ⟨d29, fl gs29, e29 * 1, 34⟩ :: ⟨f29, fl ls29, g29 * 1, 34⟩ :: ⟨some ⟨b35, 0, none⟩, cycle [Value.float .f32 0] n29, n29 * 1, 34⟩ :: ⟨a38, fl xs38, c38 * 1, 34⟩ :: X) x1 (fl rs29) ∧ Sees w (⟨a29, fl rs29, c29 * 1, 34⟩ :: ⟨d29, fl gs29, e29 * 1, 34⟩ :: ⟨f29, fl ls29, g29 * 1, 34⟩ :: ⟨some ⟨b35, 0, none⟩, cycle [Value.float .f32 0] n29, n29 * 1, 34⟩ :: ⟨a38, fl xs38, c38 * 1, 34⟩ :: X) x2 (fl gs29) ∧ Sees w (⟨a29, fl rs29, c29 * 1, 34⟩ :: ⟨d29, fl gs29, e29 * 1, 34⟩ :: ⟨f29, fl ls29, g29 * 1, 34⟩ :: ⟨some ⟨b35, 0, none⟩, cycle [Value.float .f32 0] n29, n29 * 1, 34⟩ :: ⟨a38, fl xs38, c38 * 1, 34⟩ :: X) x3 (fl ls29) ∧ Sees w (⟨a29, fl rs29, c29 * 1, 34⟩ :: ⟨d29, fl gs29, e29 * 1, 34⟩ :: ⟨f29, fl ls29, g29 * 1, 34⟩ :: ⟨some ⟨b35, 0, none⟩, cycle [Value.float .f32 0] n29, n29 * 1, 34⟩ :: ⟨a38, fl xs38, c38 * 1, 34⟩ :: X) x4 (fl (tks n29 rs29 gs29 ls29 xs42 1048576000 (List.replicate n29 0, xs38) k).1) ∧ Sees w (⟨a29, fl rs29, c29 * 1, 34⟩ :: ⟨d29, fl gs29, e29 * 1, 34⟩ :: ⟨f29, fl ls29, g29 * 1, 34⟩ :: ⟨some ⟨b35, 0, none⟩, cycle [Value.float .f32 0] n29, n29 * 1, 34⟩ :: ⟨a38, fl xs38, c38 * 1, 34⟩ :: X) x5 (fl (tks n29 rs29 gs29 ls29 xs42 1048576000 (List.replicate n29 0, xs38) k).2)) (fun ⟨k, X, x1, y1, x2, y2, x3, y3, x4, y4, x5, y5⟩ => (⟨some ⟨b13, 0, none⟩, [.slice x1 n29 y1, .slice x2 n29 y2, .slice x3 (n29 * n29) y3, .slice x4 n29 y4, .slice x5 n29 y5], 5, 30⟩ :: ⟨some ⟨b5, 0, none⟩, [.slice a29 n29 c29, .slice d29 n29 e29, .slice f29 (n29 * n29) g29], 3, 26⟩ :: ⟨some ⟨b7, 0, none⟩, [.slice a29 n29 c29, .slice d29 n29 e29, .slice f29 (n29 * n29) g29, .slice (some ⟨b35, 0, none⟩) n29 n29, .slice a38 n29 c38], 5, 30⟩ :: ⟨some ⟨b10, 0, none⟩, [.slice a49 n29 c49, .slice d49 n29 e49, .slice f49 (n29 * n29) g49, .slice h49 n29 i49, .slice j49 n29 k49], 5, 30⟩ :: ⟨a29, fl rs29, c29 * 1, 34⟩ :: ⟨d29, fl gs29, e29 * 1, 34⟩ :: ⟨f29, fl ls29, g29 * 1, 34⟩ :: ⟨some ⟨b35, 0, none⟩, cycle [Value.float .f32 0] n29, n29 * 1, 34⟩ :: ⟨a38, fl xs38, c38 * 1, 34⟩ :: ⟨a42, fl xs42, c42 * 1, 34⟩ :: ⟨h49, fl (tks n29 rs29 gs29 ls29 xs42 1048576000 (List.replicate n29 0, xs38) x44).1, i49 * 1, 34⟩ :: ⟨j49, fl (tks n29 rs29 gs29 ls29 xs42 1048576000 (List.replicate n29 0, xs38) x44).2, k49 * 1, 34⟩ :: ⟨l49, fl (fst0 n29 rs29 gs29 ls29 xs42 1048576000 (List.replicate n29 0, xs38) x44), m49 * 1, 34⟩ :: X)) (fun ⟨k, X, x1, y1, x2, y2, x3, y3, x4, y4, x5, y5⟩ => [(14, .int .i64 (k : Int))]) (fun ⟨k, X, x1, y1, x2, y2, x3, y3, x4, y4, x5, y5⟩ => x44 - k) (0, [], a29, c29, d29, e29, f29, g29, some ⟨b35, 0, none⟩, n29, a38, c38) (.cons rfl (.cons rfl (.cons rfl (.cons rfl (.cons rfl (.cons rfl (.cons rfl (.cons rfl .nil)))))))) (.cons rfl .nil) ?_ ?_ ?_
          · exact (fun w hw => hw.pick (by apply Pick.cons1; (· repeat (first | exact Rem.here | exact Rem.all | exact Rem.hereS | apply Rem.there | apply Rem.thereS)); apply Pick.cons1; (· repeat (first | exact Rem.here | exact Rem.all | exact Rem.hereS | apply Rem.there | apply Rem.thereS)); apply Pick.cons1; (· repeat (first | exact Rem.here | exact Rem.all | exact Rem.hereS | apply Rem.there | apply Rem.thereS)); apply Pick.cons1; (· repeat (first | exact Rem.here | exact Rem.all | exact Rem.hereS | apply Rem.there | apply Rem.thereS)); apply Pick.cons1; (· repeat (first | exact Rem.here | exact Rem.all | exact Rem.hereS | apply Rem.there | apply Rem.thereS)); apply Pick.cons1; (· repeat (first | exact Rem.here | exact Rem.all | exact Rem.hereS | apply Rem.there | apply Rem.thereS)); apply Pick.cons1; (· repeat (first | exact Rem.here | exact Rem.all | exact Rem.hereS | apply Rem.there | apply Rem.thereS)); apply Pick.cons1; (· repeat (first | exact Rem.here | exact Rem.all | exact Rem.hereS | apply Rem.there | apply Rem.thereS)); apply Pick.cons1; (· repeat (first | exact Rem.here | exact Rem.all | exact Rem.hereS | apply Rem.there | apply Rem.thereS)); apply Pick.cons1; (· repeat (first | exact Rem.here | exact Rem.all | exact Rem.hereS | apply Rem.there | apply Rem.thereS)); apply Pick.cons1; (· repeat (first | exact Rem.here | exact Rem.all | exact Rem.hereS | apply Rem.there | apply Rem.thereS)); apply Pick.cons1; (· repeat (first | exact Rem.here | exact Rem.all | exact Rem.hereS | apply Rem.there | apply Rem.thereS)); apply Pick.cons1; (· repeat (first | exact Rem.here | exact Rem.all | exact Rem.hereS | apply Rem.there | apply Rem.thereS)); exact Pick.nil))
          · exact (by refine ⟨Nat.zero_le _, Sees.own (by repeat (first | exact List.mem_cons_self | apply List.mem_cons_of_mem)), Sees.own (by repeat (first | exact List.mem_cons_self | apply List.mem_cons_of_mem)), Sees.own (by repeat (first | exact List.mem_cons_self | apply List.mem_cons_of_mem)), ?_, ?_⟩ <;> rw [tks_zero] <;> first | exact Sees.own (by repeat (first | exact List.mem_cons_self | apply List.mem_cons_of_mem)) | (rw [← fl_zeros]; exact Sees.own (by repeat (first | exact List.mem_cons_self | apply List.mem_cons_of_mem))))
          rintro ⟨k, X, x1, y1, x2, y2, x3, y3, x4, y4, x5, y5⟩ ⟨hk9, hX1, hX2, hX3, hX4, hX5⟩
          show V _ _ _ (⟨some ⟨b13, 0, none⟩, [.slice x1 n29 y1, .slice x2 n29 y2, .slice x3 (n29 * n29) y3, .slice x4 n29 y4, .slice x5 n29 y5], 5, 30⟩ :: ⟨some ⟨b5, 0, none⟩, [.slice a29 n29 c29, .slice d29 n29 e29, .slice f29 (n29 * n29) g29], 3, 26⟩ :: ⟨some ⟨b7, 0, none⟩, [.slice a29 n29 c29, .slice d29 n29 e29, .slice f29 (n29 * n29) g29, .slice (some ⟨b35, 0, none⟩) n29 n29, .slice a38 n29 c38], 5, 30⟩ :: ⟨some ⟨b10, 0, none⟩, [.slice a49 n29 c49, .slice d49 n29 e49, .slice f49 (n29 * n29) g49, .slice h49 n29 i49, .slice j49 n29 k49], 5, 30⟩ :: ⟨a29, fl rs29, c29 * 1, 34⟩ :: ⟨d29, fl gs29, e29 * 1, 34⟩ :: ⟨f29, fl ls29, g29 * 1, 34⟩ :: ⟨some ⟨b35, 0, none⟩, cycle [Value.float .f32 0] n29, n29 * 1, 34⟩ :: ⟨a38, fl xs38, c38 * 1, 34⟩ :: ⟨a42, fl xs42, c42 * 1, 34⟩ :: ⟨h49, fl (tks n29 rs29 gs29 ls29 xs42 1048576000 (List.replicate n29 0, xs38) x44).1, i49 * 1, 34⟩ :: ⟨j49, fl (tks n29 rs29 gs29 ls29 xs42 1048576000 (List.replicate n29 0, xs38) x44).2, k49 * 1, 34⟩ :: ⟨l49, fl (fst0 n29 rs29 gs29 ls29 xs42 1048576000 (List.replicate n29 0, xs38) x44), m49 * 1, 34⟩ :: X) ([(14, .int .i64 (k : Int))] ++ [(5, _), (6, _), (7, _), (8, _), (9, _), (10, _), (11, _), (13, _)]) _ _
          refine V.seq ?_
          refine V.seq ?_
          refine V.region ?_
          refine VL.r (.inl rfl) rfl (by decide) (yr_move rfl rfl) ?_
          refine VL.r (.inl rfl) rfl (by decide) (yr_move rfl rfl) ?_
          refine VL.r (.inl rfl) rfl (by decide) (yr_icmp rfl (.inr (.inr (.inl rfl))) rfl rfl) ?_
          refine VL.nil ?_
          refine VE.then_wp ?_
          refine V.cond rfl (fun h5 => ?_) (fun h5 => ?_)
          · skip
            replace h5 := ic_lss h5
            have hk8 : k < x44 := by (try dsimp only at h5); omega
            refine V.skip ?_
            refine VE.then_wp ?_
            refine V.seq ?_
            refine V.block ?_
            refine V.seq ?_
            refine V.region ?_
            refine VL.q (.inl rfl) rfl (by decide) (yq_loadS rfl Try.underlying30 sz30_Tj rfl (by first | exact Sees.root (by assumption) | exact Sees.own (by repeat (first | exact List.mem_cons_self | exact List.mem_append_left _ (by assumption) | apply List.mem_cons_of_mem | apply List.mem_append_right)) | exact Sees.root (hR _ (by omega)) | exact Sees.own (RowsIn.mem (by repeat (first | exact RowsIn.here | exact RowsIn.last | apply RowsIn.there | apply RowsIn.thereS)) _ (by omega)) | exact Sees.own (WRowsIn.mem (by repeat (first | exact WRowsIn.here | exact WRowsIn.last | apply WRowsIn.there | apply WRowsIn.thereS)) _ (by omega))) rfl rfl rfl) ?_
            refine VL.r (.inl rfl) rfl (by decide) (yr_move rfl rfl) ?_
            refine VL.new (.inl rfl) rfl (by decide) (yn_callf rfl known10_Tj (.cons rfl (.cons rfl (.cons rfl .nil))) (fun w hw => (c_stepT (tk := 1048576000) (n := n29) (rs := rs29) (gs := gs29) (ls := ls29) (qs := (tks n29 rs29 gs29 ls29 xs42 1048576000 (List.replicate n29 0, xs38) k).1) (js := (tks n29 rs29 gs29 ls29 xs42 1048576000 (List.replicate n29 0, xs38) k).2) (vs := xs42) (hX1 w (hw.pick (by apply Pick.cons1; (· repeat (first | exact Rem.here | exact Rem.all | exact Rem.hereS | apply Rem.there | apply Rem.thereS)); apply Pick.cons1; (· repeat (first | exact Rem.here | exact Rem.all | exact Rem.hereS | apply Rem.there | apply Rem.thereS)); apply Pick.cons1; (· repeat (first | exact Rem.here | exact Rem.all | exact Rem.hereS | apply Rem.there | apply Rem.thereS)); apply Pick.cons1; (· repeat (first | exact Rem.here | exact Rem.all | exact Rem.hereS | apply Rem.there | apply Rem.thereS)); apply Pick.cons1; (· repeat (first | exact Rem.here | exact Rem.all | exact Rem.hereS | apply Rem.there | apply Rem.thereS)); apply Pick.last; repeat (first | exact Rem.here | exact Rem.all | exact Rem.hereS | apply Rem.there | apply Rem.thereS)))) (hX2 w (hw.pick (by apply Pick.cons1; (· repeat (first | exact Rem.here | exact Rem.all | exact Rem.hereS | apply Rem.there | apply Rem.thereS)); apply Pick.cons1; (· repeat (first | exact Rem.here | exact Rem.all | exact Rem.hereS | apply Rem.there | apply Rem.thereS)); apply Pick.cons1; (· repeat (first | exact Rem.here | exact Rem.all | exact Rem.hereS | apply Rem.there | apply Rem.thereS)); apply Pick.cons1; (· repeat (first | exact Rem.here | exact Rem.all | exact Rem.hereS | apply Rem.there | apply Rem.thereS)); apply Pick.cons1; (· repeat (first | exact Rem.here | exact Rem.all | exact Rem.hereS | apply Rem.there | apply Rem.thereS)); apply Pick.last; repeat (first | exact Rem.here | exact Rem.all | exact Rem.hereS | apply Rem.there | apply Rem.thereS)))) (hX3 w (hw.pick (by apply Pick.cons1; (· repeat (first | exact Rem.here | exact Rem.all | exact Rem.hereS | apply Rem.there | apply Rem.thereS)); apply Pick.cons1; (· repeat (first | exact Rem.here | exact Rem.all | exact Rem.hereS | apply Rem.there | apply Rem.thereS)); apply Pick.cons1; (· repeat (first | exact Rem.here | exact Rem.all | exact Rem.hereS | apply Rem.there | apply Rem.thereS)); apply Pick.cons1; (· repeat (first | exact Rem.here | exact Rem.all | exact Rem.hereS | apply Rem.there | apply Rem.thereS)); apply Pick.cons1; (· repeat (first | exact Rem.here | exact Rem.all | exact Rem.hereS | apply Rem.there | apply Rem.thereS)); apply Pick.last; repeat (first | exact Rem.here | exact Rem.all | exact Rem.hereS | apply Rem.there | apply Rem.thereS)))) (hX4 w (hw.pick (by apply Pick.cons1; (· repeat (first | exact Rem.here | exact Rem.all | exact Rem.hereS | apply Rem.there | apply Rem.thereS)); apply Pick.cons1; (· repeat (first | exact Rem.here | exact Rem.all | exact Rem.hereS | apply Rem.there | apply Rem.thereS)); apply Pick.cons1; (· repeat (first | exact Rem.here | exact Rem.all | exact Rem.hereS | apply Rem.there | apply Rem.thereS)); apply Pick.cons1; (· repeat (first | exact Rem.here | exact Rem.all | exact Rem.hereS | apply Rem.there | apply Rem.thereS)); apply Pick.cons1; (· repeat (first | exact Rem.here | exact Rem.all | exact Rem.hereS | apply Rem.there | apply Rem.thereS)); apply Pick.last; repeat (first | exact Rem.here | exact Rem.all | exact Rem.hereS | apply Rem.there | apply Rem.thereS)))) (hX5 w (hw.pick (by apply Pick.cons1; (· repeat (first | exact Rem.here | exact Rem.all | exact Rem.hereS | apply Rem.there | apply Rem.thereS)); apply Pick.cons1; (· repeat (first | exact Rem.here | exact Rem.all | exact Rem.hereS | apply Rem.there | apply Rem.thereS)); apply Pick.cons1; (· repeat (first | exact Rem.here | exact Rem.all | exact Rem.hereS | apply Rem.there | apply Rem.thereS)); apply Pick.cons1; (· repeat (first | exact Rem.here | exact Rem.all | exact Rem.hereS | apply Rem.there | apply Rem.thereS)); apply Pick.cons1; (· repeat (first | exact Rem.here | exact Rem.all | exact Rem.hereS | apply Rem.there | apply Rem.thereS)); apply Pick.last; repeat (first | exact Rem.here | exact Rem.all | exact Rem.hereS | apply Rem.there | apply Rem.thereS)))) (by first | exact Sees.root (by assumption) w hw | exact Sees.own (by repeat (first | exact List.mem_cons_self | exact List.mem_append_left _ (by assumption) | apply List.mem_cons_of_mem | apply List.mem_append_right)) w hw) (by decide +kernel) hc29.ok (tks_len List.length_replicate hl38 k).1 (tks_len List.length_replicate hl38 k).2 hl42 (hc29.sok (tf_bd hq42 hl42) (tf_bd hq38 hl38) (by omega))))) ?_
            rintro ⟨⟨⟨a75, c75⟩, ⟨d75, e75⟩, f75, g75⟩, ⟨h75, i75⟩, ⟨j75, k75⟩⟩
            refine VL.r (.inl rfl) rfl (by decide) (yr_move rfl rfl) ?_
            refine VL.r (.inl rfl) rfl (by decide) (yr_extract rfl rfl rfl (by nofun)) ?_
            refine VL.r (.inl rfl) rfl (by decide) (yr_extract rfl rfl rfl (by nofun)) ?_
            refine VL.new1 (.inl rfl) rfl (by decide) (yn_alloc rfl zero30_Tj rfl) ?_
            intro b15
            refine VL.s (.inl rfl) rfl (yc_store rfl sz30_Tj rfl rfl (by repeat (first | exact UpdF.here | apply UpdF.there | apply UpdF.thereS)) (.inr ⟨rfl, rfl⟩) rfl (by first | exact Nat.le_of_ble_eq_true rfl | simp) (by decide) rfl) ?_
            rintro ⟨⟩
            refine VL.r (.inl rfl) rfl (by decide) (yr_assign rfl rfl) ?_
            refine VL.nil ?_
            refine VE.then_wp ?_
            refine V.seq ?_
            refine V.seq ?_
            refine V.draw [(0, 0), (1, 0), (2, 0), (3, 0), (4, 0), (5, 0), (6, 0), (7, 0), (8, 0), (9, 0), (10, 0), (11, 0), (12, 0), (13, 0)] mixed_Tj (by kernel_rfl) (by intro j o hj; simp at hj) ?_
            refine SW.r rfl (.inl rfl) rfl (by decide) (yr_move rfl rfl) ?_
            refine SW.r rfl (.inl rfl) rfl (by decide) (yr_not rfl rfl) ?_
            refine SW.r rfl (.inl rfl) rfl (by decide) (yr_move rfl rfl) ?_
            refine SW.split lax_ve 80 _ rfl (fun h6 => ?_) (fun h6 => ?_)
            · skip
              replace h6 := bnot_t h6
              cases h6
            · skip
              replace h6 := bnot_f h6
              refine SW.r rfl (.inr ⟨_, _, _, rfl, rfl, rfl⟩) rfl (by decide) (yr_fieldAddr rfl Try.underlying30 rfl rfl sz24_Tj (by decide) rfl) ?_
              refine SW.q rfl (.inr ⟨_, _, _, rfl, rfl, rfl⟩) rfl (by decide) (yq_load rfl fb24_Tj rfl (by first | exact Sees.root (by assumption) | exact Sees.own (by repeat (first | exact List.mem_cons_self | exact List.mem_append_left _ (by assumption) | apply List.mem_cons_of_mem | apply List.mem_append_right)) | exact Sees.root (hR _ (by omega)) | exact Sees.own (RowsIn.mem (by repeat (first | exact RowsIn.here | exact RowsIn.last | apply RowsIn.there | apply RowsIn.thereS)) _ (by omega)) | exact Sees.own (WRowsIn.mem (by repeat (first | exact WRowsIn.here | exact WRowsIn.last | apply WRowsIn.there | apply WRowsIn.thereS)) _ (by omega))) rfl) ?_
              refine SW.q rfl (.inr ⟨_, _, _, rfl, rfl, rfl⟩) rfl (by decide) (yq_idx (k := 0) rfl Try.underlying24 sz34_Tj rfl rfl (by first | exact Sees.root (by assumption) | exact Sees.own (by repeat (first | exact List.mem_cons_self | exact List.mem_append_left _ (by assumption) | apply List.mem_cons_of_mem | apply List.mem_append_right)) | exact Sees.root (hR _ (by omega)) | exact Sees.own (RowsIn.mem (by repeat (first | exact RowsIn.here | exact RowsIn.last | apply RowsIn.there | apply RowsIn.thereS)) _ (by omega)) | exact Sees.own (WRowsIn.mem (by repeat (first | exact WRowsIn.here | exact WRowsIn.last | apply WRowsIn.there | apply WRowsIn.thereS)) _ (by omega))) (by first | rfl | omega | (push_cast; rfl) | (push_cast; omega) | exact tmod_nat _ _) (by first | (rw [fl_length, nI_length]; done) | (rw [fl_length, fst0_length]; done) | (rw [fl_length]; exact hlz9)) (by first | ((try dsimp only); omega) | (rw [nI_length]; omega))) ?_
              refine SW.q rfl (.inr ⟨_, _, _, rfl, rfl, rfl⟩) rfl (by decide) (yq_loadF rfl fb34_Tj rfl (by first | exact Sees.root (by assumption) | exact Sees.own (by repeat (first | exact List.mem_cons_self | exact List.mem_append_left _ (by assumption) | apply List.mem_cons_of_mem | apply List.mem_append_right)) | exact Sees.root (hR _ (by omega)) | exact Sees.own (RowsIn.mem (by repeat (first | exact RowsIn.here | exact RowsIn.last | apply RowsIn.there | apply RowsIn.thereS)) _ (by omega)) | exact Sees.own (WRowsIn.mem (by repeat (first | exact WRowsIn.here | exact WRowsIn.last | apply WRowsIn.there | apply WRowsIn.thereS)) _ (by omega))) (by first | ((try dsimp only); omega) | (rw [nI_length]; omega))) ?_
              refine SW.r rfl (.inr ⟨_, _, _, rfl, rfl, rfl⟩) rfl (by decide) (yr_move rfl rfl) ?_
              refine SW.r rfl (.inr ⟨_, _, _, rfl, rfl, rfl⟩) rfl (by decide) (yr_move rfl rfl) ?_
              refine SW.q rfl (.inr ⟨_, _, _, rfl, rfl, rfl⟩) rfl (by decide) (yq_idx (k := k) rfl Try.underlying24 sz34_Tj rfl rfl (by first | exact Sees.root (by assumption) | exact Sees.own (by repeat (first | exact List.mem_cons_self | exact List.mem_append_left _ (by assumption) | apply List.mem_cons_of_mem | apply List.mem_append_right)) | exact Sees.root (hR _ (by omega)) | exact Sees.own (RowsIn.mem (by repeat (first | exact RowsIn.here | exact RowsIn.last | apply RowsIn.there | apply RowsIn.thereS)) _ (by omega)) | exact Sees.own (WRowsIn.mem (by repeat (first | exact WRowsIn.here | exact WRowsIn.last | apply WRowsIn.there | apply WRowsIn.thereS)) _ (by omega))) (by first | rfl | omega | (push_cast; rfl) | (push_cast; omega) | exact tmod_nat _ _) (by first | (rw [fl_length, nI_length]; done) | (rw [fl_length, fst0_length]; done) | (rw [fl_length]; exact hlz9)) (by first | ((try dsimp only); omega) | (rw [nI_length]; omega))) ?_
              refine SW.q rfl (.inr ⟨_, _, _, rfl, rfl, rfl⟩) rfl (by decide) (yq_load (u := .float .f32 ((nI n29 rs29 gs29 ls29 (tks n29 rs29 gs29 ls29 xs42 1048576000 (List.replicate n29 0, xs38) k).1 (tks n29 rs29 gs29 ls29 xs42 1048576000 (List.replicate n29 0, xs38) k).2 xs42 1048576000 n29).getD 0 0)) rfl fb34_Tj rfl (by first | exact Sees.root (by assumption) | exact Sees.own (by repeat (first | exact List.mem_cons_self | exact List.mem_append_left _ (by assumption) | apply List.mem_cons_of_mem | apply List.mem_append_right)) | exact Sees.root (hR _ (by omega)) | exact Sees.own (RowsIn.mem (by repeat (first | exact RowsIn.here | exact RowsIn.last | apply RowsIn.there | apply RowsIn.thereS)) _ (by omega)) | exact Sees.own (WRowsIn.mem (by repeat (first | exact WRowsIn.here | exact WRowsIn.last | apply WRowsIn.there | apply WRowsIn.thereS)) _ (by omega))) (by have h9 := fst0_get rs29 gs29 ls29 xs42 1048576000 (List.replicate n29 0, xs38) (n := n29) hk8; rw [tks_succ] at h9; rw [← h9]; exact fl_get (by rw [fst0_length]; omega))) ?_
              refine SW.q rfl (.inr ⟨_, _, _, rfl, rfl, rfl⟩) rfl (by decide) (yq_callf rfl known11_Tj (.cons rfl (.cons rfl .nil)) (fun w hw => (c_sameNT (by have h9 := (hc29.cans (tf_bd hq42 hl42) (tf_bd hq38 hl38) hl38 (k := k + 1) (by omega)).2; rw [tks_succ] at h9; exact h9 _ (getD_mem (by rw [nI_length]; omega)))))) ?_
              refine SW.r rfl (.inr ⟨_, _, _, rfl, rfl, rfl⟩) rfl (by decide) (yr_not rfl rfl) ?_
              refine SW.r rfl (.inl rfl) rfl (by decide) (yr_pick_f rfl rfl rfl) ?_
              refine SW.done ?_
              refine VE.then_wp ?_
              refine V.cond rfl (fun h7 => ?_) (fun h7 => ?_)
              · skip
                replace h7 := bnot_t h7
                cases h7
              · skip
                replace h7 := bnot_f h7
                refine V.skip ?_
                refine VE.then_wp ?_
                refine V.region ?_
                refine VL.q (.inl rfl) rfl (by decide) (yq_loadS rfl Try.underlying30 sz30_Tj rfl (by first | exact Sees.root (by assumption) | exact Sees.own (by repeat (first | exact List.mem_cons_self | exact List.mem_append_left _ (by assumption) | apply List.mem_cons_of_mem | apply List.mem_append_right)) | exact Sees.root (hR _ (by omega)) | exact Sees.own (RowsIn.mem (by repeat (first | exact RowsIn.here | exact RowsIn.last | apply RowsIn.there | apply RowsIn.thereS)) _ (by omega)) | exact Sees.own (WRowsIn.mem (by repeat (first | exact WRowsIn.here | exact WRowsIn.last | apply WRowsIn.there | apply WRowsIn.thereS)) _ (by omega))) rfl rfl rfl) ?_
                refine VL.s (.inl rfl) rfl (yc_store rfl sz30_Tj rfl rfl (by repeat (first | exact UpdF.here | apply UpdF.there | apply UpdF.thereS)) (.inr ⟨rfl, rfl⟩) rfl (by first | exact Nat.le_of_ble_eq_true rfl | simp) (by decide) rfl) ?_
                rintro ⟨⟩
                refine VL.nil ?_
                refine VE.block_normal ?_
                refine VE.then_wp ?_
                refine V.region ?_
                refine VL.r (.inl rfl) rfl (by decide) (yr_move rfl rfl) ?_
                refine VL.r (.inl rfl) rfl (by decide) (yr_int rfl rfl rfl (.inl ⟨rfl, wrap_in (by (try dsimp only); omega)⟩)) ?_
                refine VL.r (.inl rfl) rfl (by decide) (yr_assign rfl rfl) ?_
                refine VL.nil ?_
                refine VE.round (k + 1, [⟨a75, fl rs29, c75 * 1, 34⟩, ⟨d75, fl gs29, e75 * 1, 34⟩, ⟨f75, fl ls29, g75 * 1, 34⟩, ⟨h75, fl (nQ n29 rs29 gs29 ls29 (tks n29 rs29 gs29 ls29 xs42 1048576000 (List.replicate n29 0, xs38) k).1 (tks n29 rs29 gs29 ls29 xs42 1048576000 (List.replicate n29 0, xs38) k).2 xs42 1048576000 n29), i75 * 1, 34⟩, ⟨j75, fl (nI n29 rs29 gs29 ls29 (tks n29 rs29 gs29 ls29 xs42 1048576000 (List.replicate n29 0, xs38) k).1 (tks n29 rs29 gs29 ls29 xs42 1048576000 (List.replicate n29 0, xs38) k).2 xs42 1048576000 n29), k75 * 1, 34⟩], a75, c75, d75, e75, f75, g75, h75, i75, j75, k75) ?_ ?_ ?_ ?_ ?_
                · exact (.cons rfl .nil)
                · exact (.cons rfl (.cons rfl (.cons rfl (.cons rfl (.cons rfl (.cons rfl (.cons rfl (.cons rfl .nil))))))))
                · exact (fun w hw => hw.pick (by apply Pick.cons1; (· repeat (first | exact Rem.here | exact Rem.all | exact Rem.hereS | apply Rem.there | apply Rem.thereS)); apply Pick.cons1; (· repeat (first | exact Rem.here | exact Rem.all | exact Rem.hereS | apply Rem.there | apply Rem.thereS)); apply Pick.cons1; (· repeat (first | exact Rem.here | exact Rem.all | exact Rem.hereS | apply Rem.there | apply Rem.thereS)); apply Pick.cons1; (· repeat (first | exact Rem.here | exact Rem.all | exact Rem.hereS | apply Rem.there | apply Rem.thereS)); apply Pick.cons1; (· repeat (first | exact Rem.here | exact Rem.all | exact Rem.hereS | apply Rem.there | apply Rem.thereS)); apply Pick.cons1; (· repeat (first | exact Rem.here | exact Rem.all | exact Rem.hereS | apply Rem.there | apply Rem.thereS)); apply Pick.cons1; (· repeat (first | exact Rem.here | exact Rem.all | exact Rem.hereS | apply Rem.there | apply Rem.thereS)); apply Pick.cons1; (· repeat (first | exact Rem.here | exact Rem.all | exact Rem.hereS | apply Rem.there | apply Rem.thereS)); apply Pick.cons1; (· repeat (first | exact Rem.here | exact Rem.all | exact Rem.hereS | apply Rem.there | apply Rem.thereS)); apply Pick.cons1; (· repeat (first | exact Rem.here | exact Rem.all | exact Rem.hereS | apply Rem.there | apply Rem.thereS)); apply Pick.cons1; (· repeat (first | exact Rem.here | exact Rem.all | exact Rem.hereS | apply Rem.there | apply Rem.thereS)); apply Pick.cons1; (· repeat (first | exact Rem.here | exact Rem.all | exact Rem.hereS | apply Rem.there | apply Rem.thereS)); apply Pick.cons1; (· repeat (first | exact Rem.here | exact Rem.all | exact Rem.hereS | apply Rem.there | apply Rem.thereS)); apply Pick.cons1; (· repeat (first | exact Rem.here | exact Rem.all | exact Rem.hereS | apply Rem.there | apply Rem.thereS)); apply Pick.cons1; (· repeat (first | exact Rem.here | exact Rem.all | exact Rem.hereS | apply Rem.there | apply Rem.thereS)); apply Pick.cons1; (· repeat (first | exact Rem.here | exact Rem.all | exact Rem.hereS | apply Rem.there | apply Rem.thereS)); apply Pick.cons1; (· repeat (first | exact Rem.here | exact Rem.all | exact Rem.hereS | apply Rem.there | apply Rem.thereS)); apply Pick.cons1; (· repeat (first | exact Rem.here | exact Rem.all | exact Rem.hereS | apply Rem.there | apply Rem.thereS)); exact Pick.nil))
                · refine ⟨by omega, Sees.own (by repeat (first | exact List.mem_cons_self | apply List.mem_cons_of_mem)), Sees.own (by repeat (first | exact List.mem_cons_self | apply List.mem_cons_of_mem)), Sees.own (by repeat (first | exact List.mem_cons_self | apply List.mem_cons_of_mem)), ?_, ?_⟩ <;> rw [tks_succ] <;> exact Sees.own (by repeat (first | exact List.mem_cons_self | apply List.mem_cons_of_mem))
                · (try dsimp only); omega
          · skip
            replace h5 := ic_lss' h5
            have hkx : k = x44 := by (try dsimp only at h5); omega
            rw [hkx] at hX4 hX5
            refine V.exit ?_
            refine VE.then_exit ?_
            refine VE.then_exit ?_
            refine VE.block_here ?_
            refine VE.then_wp ?_
            refine V.seq ?_
            refine V.seq ?_
            refine V.region ?_
            refine VL.r (.inl rfl) rfl (by decide) (yr_fieldAddr rfl Try.underlying30 rfl rfl sz24_Tj (by decide) rfl) ?_
            refine VL.q (.inl rfl) rfl (by decide) (yq_load rfl fb24_Tj rfl (by first | exact Sees.root (by assumption) | exact Sees.own (by repeat (first | exact List.mem_cons_self | exact List.mem_append_left _ (by assumption) | apply List.mem_cons_of_mem | apply List.mem_append_right)) | exact Sees.root (hR _ (by omega)) | exact Sees.own (RowsIn.mem (by repeat (first | exact RowsIn.here | exact RowsIn.last | apply RowsIn.there | apply RowsIn.thereS)) _ (by omega)) | exact Sees.own (WRowsIn.mem (by repeat (first | exact WRowsIn.here | exact WRowsIn.last | apply WRowsIn.there | apply WRowsIn.thereS)) _ (by omega))) rfl) ?_
            refine VL.r (.inl rfl) rfl (by decide) (yr_fieldAddr rfl Try.underlying30 rfl rfl sz24_Tj (by decide) rfl) ?_
            refine VL.q (.inl rfl) rfl (by decide) (yq_load rfl fb24_Tj rfl (by first | exact Sees.root (by assumption) | exact Sees.own (by repeat (first | exact List.mem_cons_self | exact List.mem_append_left _ (by assumption) | apply List.mem_cons_of_mem | apply List.mem_append_right)) | exact Sees.root (hR _ (by omega)) | exact Sees.own (RowsIn.mem (by repeat (first | exact RowsIn.here | exact RowsIn.last | apply RowsIn.there | apply RowsIn.thereS)) _ (by omega)) | exact Sees.own (WRowsIn.mem (by repeat (first | exact WRowsIn.here | exact WRowsIn.last | apply WRowsIn.there | apply WRowsIn.thereS)) _ (by omega))) rfl) ?_
            refine VL.q (.inl rfl) rfl (by decide) (yq_callf rfl known12_Tj (.cons rfl (.cons rfl .nil)) (fun w hw => (c_b10LT (xs := (tks n29 rs29 gs29 ls29 xs42 1048576000 (List.replicate n29 0, xs38) x44).2) (hX5 w (hw.pick (by apply Pick.cons1; (· repeat (first | exact Rem.here | exact Rem.all | exact Rem.hereS | apply Rem.there | apply Rem.thereS)); apply Pick.cons1; (· repeat (first | exact Rem.here | exact Rem.all | exact Rem.hereS | apply Rem.there | apply Rem.thereS)); apply Pick.cons1; (· repeat (first | exact Rem.here | exact Rem.all | exact Rem.hereS | apply Rem.there | apply Rem.thereS)); apply Pick.cons1; (· repeat (first | exact Rem.here | exact Rem.all | exact Rem.hereS | apply Rem.there | apply Rem.thereS)); apply Pick.cons1; (· repeat (first | exact Rem.here | exact Rem.all | exact Rem.hereS | apply Rem.there | apply Rem.thereS)); apply Pick.last; repeat (first | exact Rem.here | exact Rem.all | exact Rem.hereS | apply Rem.there | apply Rem.thereS)))) (by first | exact Sees.root (by assumption) w hw | exact Sees.own (by repeat (first | exact List.mem_cons_self | exact List.mem_append_left _ (by assumption) | apply List.mem_cons_of_mem | apply List.mem_append_right)) w hw) (tks_len List.length_replicate hl38 x44).2 (hc29.cans (tf_bd hq42 hl42) (tf_bd hq38 hl38) hl38 (by omega)).2 (by omega)))) ?_
            refine VL.r (.inl rfl) rfl (by decide) (yr_not rfl rfl) ?_
            refine VL.r (.inl rfl) rfl (by decide) (yr_move rfl rfl) ?_
            refine VX.split 99 _ rfl (fun h8 => ?_) (fun h8 => ?_)
            · skip
              replace h8 := bnot_t h8
              cases h8
            · skip
              replace h8 := bnot_f h8
              refine VL.r (.inr ⟨_, _, _, rfl, rfl, rfl⟩) rfl (by decide) (yr_fieldAddr rfl Try.underlying30 rfl rfl sz24_Tj (by decide) rfl) ?_
              refine VL.q (.inr ⟨_, _, _, rfl, rfl, rfl⟩) rfl (by decide) (yq_load rfl fb24_Tj rfl (by first | exact Sees.root (by assumption) | exact Sees.own (by repeat (first | exact List.mem_cons_self | exact List.mem_append_left _ (by assumption) | apply List.mem_cons_of_mem | apply List.mem_append_right)) | exact Sees.root (hR _ (by omega)) | exact Sees.own (RowsIn.mem (by repeat (first | exact RowsIn.here | exact RowsIn.last | apply RowsIn.there | apply RowsIn.thereS)) _ (by omega)) | exact Sees.own (WRowsIn.mem (by repeat (first | exact WRowsIn.here | exact WRowsIn.last | apply WRowsIn.there | apply WRowsIn.thereS)) _ (by omega))) rfl) ?_
              refine VL.r (.inr ⟨_, _, _, rfl, rfl, rfl⟩) rfl (by decide) (yr_fieldAddr rfl Try.underlying30 rfl rfl sz24_Tj (by decide) rfl) ?_
              refine VL.q (.inr ⟨_, _, _, rfl, rfl, rfl⟩) rfl (by decide) (yq_load rfl fb24_Tj rfl (by first | exact Sees.root (by assumption) | exact Sees.own (by repeat (first | exact List.mem_cons_self | exact List.mem_append_left _ (by assumption) | apply List.mem_cons_of_mem | apply List.mem_append_right)) | exact Sees.root (hR _ (by omega)) | exact Sees.own (RowsIn.mem (by repeat (first | exact RowsIn.here | exact RowsIn.last | apply RowsIn.there | apply RowsIn.thereS)) _ (by omega)) | exact Sees.own (WRowsIn.mem (by repeat (first | exact WRowsIn.here | exact WRowsIn.last | apply WRowsIn.there | apply WRowsIn.thereS)) _ (by omega))) rfl) ?_
              refine VL.q (.inr ⟨_, _, _, rfl, rfl, rfl⟩) rfl (by decide) (yq_callf rfl known12_Tj (.cons rfl (.cons rfl .nil)) (fun w hw => (c_b10LT (xs := (tks n29 rs29 gs29 ls29 xs42 1048576000 (List.replicate n29 0, xs38) x44).1) (hX4 w (hw.pick (by apply Pick.cons1; (· repeat (first | exact Rem.here | exact Rem.all | exact Rem.hereS | apply Rem.there | apply Rem.thereS)); apply Pick.cons1; (· repeat (first | exact Rem.here | exact Rem.all | exact Rem.hereS | apply Rem.there | apply Rem.thereS)); apply Pick.cons1; (· repeat (first | exact Rem.here | exact Rem.all | exact Rem.hereS | apply Rem.there | apply Rem.thereS)); apply Pick.cons1; (· repeat (first | exact Rem.here | exact Rem.all | exact Rem.hereS | apply Rem.there | apply Rem.thereS)); apply Pick.cons1; (· repeat (first | exact Rem.here | exact Rem.all | exact Rem.hereS | apply Rem.there | apply Rem.thereS)); apply Pick.last; repeat (first | exact Rem.here | exact Rem.all | exact Rem.hereS | apply Rem.there | apply Rem.thereS)))) (by first | exact Sees.root (by assumption) w hw | exact Sees.own (by repeat (first | exact List.mem_cons_self | exact List.mem_append_left _ (by assumption) | apply List.mem_cons_of_mem | apply List.mem_append_right)) w hw) (tks_len List.length_replicate hl38 x44).1 (hc29.cans (tf_bd hq42 hl42) (tf_bd hq38 hl38) hl38 (by omega)).1 (by omega)))) ?_
              refine VL.r (.inr ⟨_, _, _, rfl, rfl, rfl⟩) rfl (by decide) (yr_not rfl rfl) ?_
              refine VL.r (.inl rfl) rfl (by decide) (yr_pick_f rfl rfl rfl) ?_
              refine VL.nil ?_
              refine VE.then_wp ?_
              refine V.cond rfl (fun h9 => ?_) (fun h9 => ?_)
              · skip
                replace h9 := bnot_t h9
                cases h9
              · skip
                replace h9 := bnot_f h9
                refine V.skip ?_
                refine VE.then_wp ?_
                refine V.seq ?_
                refine V.seq ?_
                refine V.region ?_
                refine VL.r (.inl rfl) rfl (by decide) (yr_fieldAddr rfl Try.underlying26 rfl rfl sz24_Tj (by decide) rfl) ?_
                refine VL.q (.inl rfl) rfl (by decide) (yq_load rfl fb24_Tj rfl (by first | exact Sees.root (by assumption) | exact Sees.own (by repeat (first | exact List.mem_cons_self | exact List.mem_append_left _ (by assumption) | apply List.mem_cons_of_mem | apply List.mem_append_right)) | exact Sees.root (hR _ (by omega)) | exact Sees.own (RowsIn.mem (by repeat (first | exact RowsIn.here | exact RowsIn.last | apply RowsIn.there | apply RowsIn.thereS)) _ (by omega)) | exact Sees.own (WRowsIn.mem (by repeat (first | exact WRowsIn.here | exact WRowsIn.last | apply WRowsIn.there | apply WRowsIn.thereS)) _ (by omega))) rfl) ?_
                refine VL.r (.inl rfl) rfl (by decide) (yr_len rfl Try.underlying24 rfl) ?_
                refine VL.r (.inl rfl) rfl (by decide) (yr_move (u := .int .i64 0) rfl rfl) ?_
                refine VL.nil ?_
                refine VE.then_wp ?_
                refine V.block ?_
                refine V.loopc (G := Nat × (List Nat)) [(5, _), (6, _), (7, _), (109, _)] (fun ⟨i, zs⟩ => i ≤ n29 ∧ zs.length = n29 ∧ ∀ a, a < i → zs.getD a 0 = 0) (fun ⟨i, zs⟩ => (⟨some ⟨b5, 0, none⟩, [.slice a29 n29 c29, .slice d29 n29 e29, .slice f29 (n29 * n29) g29], 3, 26⟩ :: ⟨some ⟨b7, 0, none⟩, [.slice a29 n29 c29, .slice d29 n29 e29, .slice f29 (n29 * n29) g29, .slice (some ⟨b35, 0, none⟩) n29 n29, .slice a38 n29 c38], 5, 30⟩ :: ⟨a29, fl rs29, c29 * 1, 34⟩ :: ⟨d29, fl zs, e29 * 1, 34⟩ :: ⟨f29, fl ls29, g29 * 1, 34⟩ :: ⟨a38, fl xs38, c38 * 1, 34⟩ :: [])) (fun ⟨i, zs⟩ => [(110, .int .i64 (i : Int))]) (fun ⟨i, zs⟩ => n29 - i) (0, gs29) (.cons rfl (.cons rfl (.cons rfl (.cons rfl .nil)))) (.cons rfl .nil) ?_ ?_ ?_
                · exact (fun w hw => hw.pick (by apply Pick.cons1; (· repeat (first | exact Rem.here | exact Rem.all | exact Rem.hereS | apply Rem.there | apply Rem.thereS)); apply Pick.cons1; (· repeat (first | exact Rem.here | exact Rem.all | exact Rem.hereS | apply Rem.there | apply Rem.thereS)); apply Pick.cons1; (· repeat (first | exact Rem.here | exact Rem.all | exact Rem.hereS | apply Rem.there | apply Rem.thereS)); apply Pick.cons1; (· repeat (first | exact Rem.here | exact Rem.all | exact Rem.hereS | apply Rem.there | apply Rem.thereS)); apply Pick.cons1; (· repeat (first | exact Rem.here | exact Rem.all | exact Rem.hereS | apply Rem.there | apply Rem.thereS)); apply Pick.cons1; (· repeat (first | exact Rem.here | exact Rem.all | exact Rem.hereS | apply Rem.there | apply Rem.thereS)); exact Pick.nil))
                · exact (by exact ⟨Nat.zero_le _, hc29.hg, fun a h => absurd h (Nat.not_lt_zero _)⟩)
                rintro ⟨i, zs⟩ ⟨hi9, hlz9, hz9⟩
                show V _ _ _ (⟨some ⟨b5, 0, none⟩, [.slice a29 n29 c29, .slice d29 n29 e29, .slice f29 (n29 * n29) g29], 3, 26⟩ :: ⟨some ⟨b7, 0, none⟩, [.slice a29 n29 c29, .slice d29 n29 e29, .slice f29 (n29 * n29) g29, .slice (some ⟨b35, 0, none⟩) n29 n29, .slice a38 n29 c38], 5, 30⟩ :: ⟨a29, fl rs29, c29 * 1, 34⟩ :: ⟨d29, fl zs, e29 * 1, 34⟩ :: ⟨f29, fl ls29, g29 * 1, 34⟩ :: ⟨a38, fl xs38, c38 * 1, 34⟩ :: []) ([(110, .int .i64 (i : Int))] ++ [(5, _), (6, _), (7, _), (109, _)]) _ _
                refine V.seq ?_
                refine V.region ?_
                refine VL.r (.inl rfl) rfl (by decide) (yr_icmp rfl (.inr (.inr (.inl rfl))) rfl rfl) ?_
                refine VL.nil ?_
                refine VE.then_wp ?_
                refine V.seq ?_
                refine V.cond rfl (fun h10 => ?_) (fun h10 => ?_)
                · skip
                  replace h10 := ic_lss h10
                  (try dsimp only at h10)
                  have hi8 : i < n29 := by omega
                  refine V.skip ?_
                  refine VE.then_wp ?_
                  refine V.seq ?_
                  refine V.block ?_
                  refine V.seq ?_
                  refine V.region ?_
                  refine VL.r (.inl rfl) rfl (by decide) (yr_move rfl rfl) ?_
                  refine VL.r (.inl rfl) rfl (by decide) (yr_assign rfl rfl) ?_
                  refine VL.nil ?_
                  refine VE.then_wp ?_
                  refine V.region ?_
                  refine VL.r (.inl rfl) rfl (by decide) (yr_fieldAddr rfl Try.underlying26 rfl rfl sz24_Tj (by decide) rfl) ?_
                  refine VL.q (.inl rfl) rfl (by decide) (yq_load rfl fb24_Tj rfl (by first | exact Sees.root (by assumption) | exact Sees.own (by repeat (first | exact List.mem_cons_self | exact List.mem_append_left _ (by assumption) | apply List.mem_cons_of_mem | apply List.mem_append_right)) | exact Sees.root (hR _ (by omega)) | exact Sees.own (RowsIn.mem (by repeat (first | exact RowsIn.here | exact RowsIn.last | apply RowsIn.there | apply RowsIn.thereS)) _ (by omega)) | exact Sees.own (WRowsIn.mem (by repeat (first | exact WRowsIn.here | exact WRowsIn.last | apply WRowsIn.there | apply WRowsIn.thereS)) _ (by omega))) rfl) ?_
                  refine VL.r (.inl rfl) rfl (by decide) (yr_move rfl rfl) ?_
                  refine VL.q (.inl rfl) rfl (by decide) (yq_idx (k := i) rfl Try.underlying24 sz34_Tj rfl rfl (by first | exact Sees.root (by assumption) | exact Sees.own (by repeat (first | exact List.mem_cons_self | exact List.mem_append_left _ (by assumption) | apply List.mem_cons_of_mem | apply List.mem_append_right)) | exact Sees.root (hR _ (by omega)) | exact Sees.own (RowsIn.mem (by repeat (first | exact RowsIn.here | exact RowsIn.last | apply RowsIn.there | apply RowsIn.thereS)) _ (by omega)) | exact Sees.own (WRowsIn.mem (by repeat (first | exact WRowsIn.here | exact WRowsIn.last | apply WRowsIn.there | apply WRowsIn.thereS)) _ (by omega))) (by first | rfl | omega | (push_cast; rfl) | (push_cast; omega) | exact tmod_nat _ _) (by first | (rw [fl_length, nI_length]; done) | (rw [fl_length, fst0_length]; done) | (rw [fl_length]; exact hlz9)) (by first | ((try dsimp only); omega) | (rw [nI_length]; omega))) ?_
                  refine VL.s (.inl rfl) rfl (yc_store rfl sz34_Tj rfl rfl (by repeat (first | exact UpdF.here | apply UpdF.there | apply UpdF.thereS)) (.inl ⟨rfl, rfl⟩) rfl (by rw [fl_length]; omega) (by decide) (fl_set _ _ _)) ?_
                  rintro ⟨⟩
                  refine VL.nil ?_
                  refine VE.block_normal ?_
                  refine VE.then_wp ?_
                  refine V.region ?_
                  refine VL.r (.inl rfl) rfl (by decide) (yr_int rfl rfl rfl (.inl ⟨rfl, wrap_in (by (try dsimp only); omega)⟩)) ?_
                  refine VL.r (.inl rfl) rfl (by decide) (yr_move rfl rfl) ?_
                  refine VL.nil ?_
                  refine VE.round (i + 1, zs.set i 0) ?_ ?_ ?_ ?_ ?_
                  · exact (.cons rfl .nil)
                  · exact (.cons rfl (.cons rfl (.cons rfl (.cons rfl .nil))))
                  · exact (fun w hw => hw.pick (by apply Pick.cons1; (· repeat (first | exact Rem.here | exact Rem.all | exact Rem.hereS | apply Rem.there | apply Rem.thereS)); apply Pick.cons1; (· repeat (first | exact Rem.here | exact Rem.all | exact Rem.hereS | apply Rem.there | apply Rem.thereS)); apply Pick.cons1; (· repeat (first | exact Rem.here | exact Rem.all | exact Rem.hereS | apply Rem.there | apply Rem.thereS)); apply Pick.cons1; (· repeat (first | exact Rem.here | exact Rem.all | exact Rem.hereS | apply Rem.there | apply Rem.thereS)); apply Pick.cons1; (· repeat (first | exact Rem.here | exact Rem.all | exact Rem.hereS | apply Rem.there | apply Rem.thereS)); apply Pick.cons1; (· repeat (first | exact Rem.here | exact Rem.all | exact Rem.hereS | apply Rem.there | apply Rem.thereS)); exact Pick.nil))
                  · exact ⟨by omega, by rw [List.length_set]; exact hlz9, tf_zero hz9 (by omega)⟩
                  · (try dsimp only); omega
                · skip
                  replace h10 := ic_lss' h10
                  (try dsimp only at h10)
                  have hi8 : i = n29 := by omega
                  rw [hi8] at hz9
                  have hcz := hc29.gaps hlz9 hz9
                  have hen := hcz.energy (tk := 1056964608) (vs := List.replicate n29 0) (qs := List.replicate n29 0) (js := xs38) (dyb_is (x := 1056964608) (v := 64) (by decide +kernel)) hz9 (fun _ _ => tf_z0) (fun _ _ => tf_z0) (tf_q hq38 hl38)
                  refine V.exit ?_
                  refine VE.then_exit ?_
                  refine VE.then_exit ?_
                  refine VE.block_here ?_
                  refine VE.then_wp ?_
                  refine V.seq ?_
                  refine Dr.V.drawR [(0, 5), (1, 5), (3, 5), (4, 5), (2, 2), (5, 5), (6, 2), (7, 3)] [(2, ((fun b => .slice (some ⟨b, 0, none⟩) n29 n29), (fun b => ⟨some ⟨b, 0, none⟩, cycle [Value.float .f32 0] n29, n29 * 1, 34⟩))), (6, ((fun b => .pointer (some (adr (some ⟨b, 0, none⟩) 0))), (fun b => ⟨some ⟨b, 0, none⟩, [Value.slice none 0 0, Value.slice none 0 0, Value.slice none 0 0, Value.slice none 0 0, Value.slice none 0 0], 5, 30⟩)))] [] _ mixed_Tj (by kernel_rfl) (fun w hw => hw) ?_
                  refine Dr.SW.p rfl (.inl rfl) rfl (by decide) (yq_loadS rfl Try.underlying26 sz26_Tj rfl (by first | exact Sees.root (by assumption) | exact Sees.own (by (try simp only [List.append_assoc, List.cons_append, List.nil_append]); repeat (first | exact List.mem_cons_self | exact List.mem_append_left _ (by assumption) | apply List.mem_cons_of_mem | apply List.mem_append_right)) | exact Sees.root (hR _ (by omega)) | exact Sees.own (RowsIn.mem (by (try simp only [List.append_assoc, List.cons_append, List.nil_append]); repeat (first | exact RowsIn.here | exact RowsIn.last | apply RowsIn.there | apply RowsIn.thereS)) _ (by omega)) | exact Sees.own (WRowsIn.mem (by (try simp only [List.append_assoc, List.cons_append, List.nil_append]); repeat (first | exact WRowsIn.here | exact WRowsIn.last | apply WRowsIn.there | apply WRowsIn.thereS)) _ (by omega))) rfl rfl rfl) ?_
                  refine Dr.SW.r rfl (.inl rfl) rfl (by decide) (yr_move rfl rfl) ?_
                  refine Dr.SW.r rfl (.inl rfl) rfl (by decide) (yr_fieldAddr rfl Try.underlying30 rfl rfl sz24_Tj (by decide) rfl) ?_
                  refine Dr.SW.p rfl (.inl rfl) rfl (by decide) (yq_load rfl fb24_Tj rfl (by first | exact Sees.root (by assumption) | exact Sees.own (by (try simp only [List.append_assoc, List.cons_append, List.nil_append]); repeat (first | exact List.mem_cons_self | exact List.mem_append_left _ (by assumption) | apply List.mem_cons_of_mem | apply List.mem_append_right)) | exact Sees.root (hR _ (by omega)) | exact Sees.own (RowsIn.mem (by (try simp only [List.append_assoc, List.cons_append, List.nil_append]); repeat (first | exact RowsIn.here | exact RowsIn.last | apply RowsIn.there | apply RowsIn.thereS)) _ (by omega)) | exact Sees.own (WRowsIn.mem (by (try simp only [List.append_assoc, List.cons_append, List.nil_append]); repeat (first | exact WRowsIn.here | exact WRowsIn.last | apply WRowsIn.there | apply WRowsIn.thereS)) _ (by omega))) rfl) ?_
                  refine Dr.SW.a rfl rfl rfl (by decide) rfl (fun w0 => (yn_makeSlicez 1 rfl rfl Try.underlying24 elt34_Tj rfl rfl rfl (by (try dsimp only); omega) (by (try dsimp only); omega))) ?_
                  intro b120
                  refine Dr.SW.r rfl (.inl rfl) rfl (by decide) (yr_build rfl lay30_Tj rfl (.cons rfl (.cons rfl (.cons rfl .nil))) (by first | (simp; done) | (simp [vv]; done) | (simp [cn, cn1, cn0]; done) | (subst_vars; simp; done)) rfl) ?_
                  refine Dr.SW.a rfl rfl rfl (by decide) rfl (fun w0 => (yn_alloc rfl zero30_Tj rfl)) ?_
                  intro b18
                  refine Dr.SW.s rfl (.inl rfl) rfl (yc_store rfl sz30_Tj rfl rfl (Dr.UpdF.app (by repeat (first | exact UpdF.here | apply UpdF.there | apply UpdF.thereS))) (.inr ⟨rfl, rfl⟩) rfl (by first | exact Nat.le_of_ble_eq_true rfl | simp) (by decide) rfl) ?_
                  rintro ⟨⟩
                  refine Dr.SW.done ?_
                  refine Dr.eqO (by simp only [List.append_nil, List.append_assoc, List.cons_append, List.nil_append] <;> rfl) ?_
                  refine VE.then_wp ?_
                  refine V.seq ?_
                  refine V.region ?_
                  refine VL.q (.inl rfl) rfl (by decide) (yq_loadS rfl Try.underlying30 sz30_Tj rfl (by first | exact Sees.root (by assumption) | exact Sees.own (by repeat (first | exact List.mem_cons_self | exact List.mem_append_left _ (by assumption) | apply List.mem_cons_of_mem | apply List.mem_append_right)) | exact Sees.root (hR _ (by omega)) | exact Sees.own (RowsIn.mem (by repeat (first | exact RowsIn.here | exact RowsIn.last | apply RowsIn.there | apply RowsIn.thereS)) _ (by omega)) | exact Sees.own (WRowsIn.mem (by repeat (first | exact WRowsIn.here | exact WRowsIn.last | apply WRowsIn.there | apply WRowsIn.thereS)) _ (by omega))) rfl rfl rfl) ?_
                  refine VL.q (.inl rfl) rfl (by decide) (yq_callf rfl known13_Tj (.cons rfl .nil) (fun w hw => (c_energyT (n := n29) (rs := rs29) (gs := zs) (ls := ls29) (qs := List.replicate n29 0) (js := xs38) (by first | exact Sees.root (by assumption) w hw | exact Sees.own (by repeat (first | exact List.mem_cons_self | exact List.mem_append_left _ (by assumption) | apply List.mem_cons_of_mem | apply List.mem_append_right)) w hw) (by first | exact Sees.root (by assumption) w hw | exact Sees.own (by repeat (first | exact List.mem_cons_self | exact List.mem_append_left _ (by assumption) | apply List.mem_cons_of_mem | apply List.mem_append_right)) w hw) (by first | exact Sees.root (by assumption) w hw | exact Sees.own (by repeat (first | exact List.mem_cons_self | exact List.mem_append_left _ (by assumption) | apply List.mem_cons_of_mem | apply List.mem_append_right)) w hw) (by rw [← fl_zeros]; exact (by first | exact Sees.root (by assumption) w hw | exact Sees.own (by repeat (first | exact List.mem_cons_self | exact List.mem_append_left _ (by assumption) | apply List.mem_cons_of_mem | apply List.mem_append_right)) w hw)) (by first | exact Sees.root (by assumption) w hw | exact Sees.own (by repeat (first | exact List.mem_cons_self | exact List.mem_append_left _ (by assumption) | apply List.mem_cons_of_mem | apply List.mem_append_right)) w hw) hcz.ok List.length_replicate hl38))) ?_
                  refine VL.r (.inl rfl) rfl (by decide) (yr_move rfl rfl) ?_
                  refine VL.r (.inl rfl) rfl (by decide) (yr_extract rfl rfl rfl (by nofun)) ?_
                  refine VL.r (.inl rfl) rfl (by decide) (yr_extract rfl rfl rfl (by nofun)) ?_
                  refine VL.r (.inl rfl) rfl (by decide) (yr_assign rfl rfl) ?_
                  refine VL.r (.inl rfl) rfl (by decide) (yr_assign rfl rfl) ?_
                  refine VL.nil ?_
                  refine VE.then_wp ?_
                  refine V.seq ?_
                  refine Dr.V.drawR [(0, 5), (1, 5), (2, 2), (3, 1), (4, 5), (5, 5), (6, 5), (7, 2), (8, 3), (9, 5)] [(2, ((fun b => .slice (some ⟨b, 0, none⟩) n29 n29), (fun b => ⟨some ⟨b, 0, none⟩, cycle [Value.float .f32 0] n29, n29 * 1, 34⟩))), (7, ((fun b => .pointer (some (adr (some ⟨b, 0, none⟩) 0))), (fun b => ⟨some ⟨b, 0, none⟩, [Value.slice none 0 0, Value.slice none 0 0, Value.slice none 0 0, Value.slice none 0 0, Value.slice none 0 0], 5, 30⟩)))] [] _ mixed_Tj (by kernel_rfl) (fun w hw => hw) ?_
                  refine Dr.SW.p rfl (.inl rfl) rfl (by decide) (yq_loadS rfl Try.underlying30 sz30_Tj rfl (by first | exact Sees.root (by assumption) | exact Sees.own (by (try simp only [List.append_assoc, List.cons_append, List.nil_append]); repeat (first | exact List.mem_cons_self | exact List.mem_append_left _ (by assumption) | apply List.mem_cons_of_mem | apply List.mem_append_right)) | exact Sees.root (hR _ (by omega)) | exact Sees.own (RowsIn.mem (by (try simp only [List.append_assoc, List.cons_append, List.nil_append]); repeat (first | exact RowsIn.here | exact RowsIn.last | apply RowsIn.there | apply RowsIn.thereS)) _ (by omega)) | exact Sees.own (WRowsIn.mem (by (try simp only [List.append_assoc, List.cons_append, List.nil_append]); repeat (first | exact WRowsIn.here | exact WRowsIn.last | apply WRowsIn.there | apply WRowsIn.thereS)) _ (by omega))) rfl rfl rfl) ?_
                  refine Dr.SW.r rfl (.inl rfl) rfl (by decide) (yr_move rfl rfl) ?_
                  refine Dr.SW.a rfl rfl rfl (by decide) rfl (fun w0 => (yn_makeSlicez 1 rfl rfl Try.underlying24 elt34_Tj rfl rfl rfl (by (try dsimp only); omega) (by (try dsimp only); omega))) ?_
                  intro b132
                  refine Dr.SW.new rfl (.inl rfl) rfl (by decide) (yn_callf rfl known10_Tj (.cons rfl (.cons rfl (.cons rfl .nil))) (fun w hw => (c_stepT (tk := 1056964608) (n := n29) (rs := rs29) (gs := zs) (ls := ls29) (qs := List.replicate n29 0) (js := xs38) (vs := List.replicate n29 0) (by first | exact Sees.root (by assumption) w hw | exact Sees.own (by (try simp only [List.append_assoc, List.cons_append, List.nil_append]); repeat (first | exact List.mem_cons_self | exact List.mem_append_left _ (by assumption) | apply List.mem_cons_of_mem | apply List.mem_append_right)) w hw) (by first | exact Sees.root (by assumption) w hw | exact Sees.own (by (try simp only [List.append_assoc, List.cons_append, List.nil_append]); repeat (first | exact List.mem_cons_self | exact List.mem_append_left _ (by assumption) | apply List.mem_cons_of_mem | apply List.mem_append_right)) w hw) (by first | exact Sees.root (by assumption) w hw | exact Sees.own (by (try simp only [List.append_assoc, List.cons_append, List.nil_append]); repeat (first | exact List.mem_cons_self | exact List.mem_append_left _ (by assumption) | apply List.mem_cons_of_mem | apply List.mem_append_right)) w hw) (by rw [← fl_zeros]; exact (by first | exact Sees.root (by assumption) w hw | exact Sees.own (by (try simp only [List.append_assoc, List.cons_append, List.nil_append]); repeat (first | exact List.mem_cons_self | exact List.mem_append_left _ (by assumption) | apply List.mem_cons_of_mem | apply List.mem_append_right)) w hw)) (by first | exact Sees.root (by assumption) w hw | exact Sees.own (by (try simp only [List.append_assoc, List.cons_append, List.nil_append]); repeat (first | exact List.mem_cons_self | exact List.mem_append_left _ (by assumption) | apply List.mem_cons_of_mem | apply List.mem_append_right)) w hw) (by rw [← fl_zeros]; exact (by first | exact Sees.root (by assumption) w hw | exact Sees.own (by (try simp only [List.append_assoc, List.cons_append, List.nil_append]); repeat (first | exact List.mem_cons_self | exact List.mem_append_left _ (by assumption) | apply List.mem_cons_of_mem | apply List.mem_append_right)) w hw)) (by decide +kernel) hcz.ok List.length_replicate hl38 List.length_replicate hen.1))) ?_
                  rintro ⟨⟨⟨a133, c133⟩, ⟨d133, e133⟩, f133, g133⟩, ⟨h133, i133⟩, ⟨j133, k133⟩⟩
                  refine Dr.SW.r rfl (.inl rfl) rfl (by decide) (yr_move rfl rfl) ?_
                  refine Dr.SW.r rfl (.inl rfl) rfl (by decide) (yr_extract rfl rfl rfl (by nofun)) ?_
                  refine Dr.SW.r rfl (.inl rfl) rfl (by decide) (yr_extract rfl rfl rfl (by nofun)) ?_
                  refine Dr.SW.a rfl rfl rfl (by decide) rfl (fun w0 => (yn_alloc rfl zero30_Tj rfl)) ?_
                  intro b21
                  refine Dr.SW.s rfl (.inl rfl) rfl (yc_store rfl sz30_Tj rfl rfl (Dr.UpdF.app (by repeat (first | exact UpdF.here | apply UpdF.there | apply UpdF.thereS))) (.inr ⟨rfl, rfl⟩) rfl (by first | exact Nat.le_of_ble_eq_true rfl | simp) (by decide) rfl) ?_
                  rintro ⟨⟩
                  refine Dr.SW.r rfl (.inl rfl) rfl (by decide) (yr_assign rfl rfl) ?_
                  refine Dr.SW.done ?_
                  refine Dr.eqO (by simp only [List.append_nil, List.append_assoc, List.cons_append, List.nil_append] <;> rfl) ?_
                  refine VE.then_wp ?_
                  refine V.seq ?_
                  refine V.region ?_
                  refine VL.q (.inl rfl) rfl (by decide) (yq_loadS rfl Try.underlying30 sz30_Tj rfl (by first | exact Sees.root (by assumption) | exact Sees.own (by repeat (first | exact List.mem_cons_self | exact List.mem_append_left _ (by assumption) | apply List.mem_cons_of_mem | apply List.mem_append_right)) | exact Sees.root (hR _ (by omega)) | exact Sees.own (RowsIn.mem (by repeat (first | exact RowsIn.here | exact RowsIn.last | apply RowsIn.there | apply RowsIn.thereS)) _ (by omega)) | exact Sees.own (WRowsIn.mem (by repeat (first | exact WRowsIn.here | exact WRowsIn.last | apply WRowsIn.there | apply WRowsIn.thereS)) _ (by omega))) rfl rfl rfl) ?_
                  refine VL.q (.inl rfl) rfl (by decide) (yq_callf rfl known13_Tj (.cons rfl .nil) (fun w hw => (c_energyT (n := n29) (rs := rs29) (gs := zs) (ls := ls29) (qs := nQ n29 rs29 zs ls29 (List.replicate n29 0) xs38 (List.replicate n29 0) 1056964608 n29) (js := nI n29 rs29 zs ls29 (List.replicate n29 0) xs38 (List.replicate n29 0) 1056964608 n29) (by first | exact Sees.root (by assumption) w hw | exact Sees.own (by repeat (first | exact List.mem_cons_self | exact List.mem_append_left _ (by assumption) | apply List.mem_cons_of_mem | apply List.mem_append_right)) w hw) (by first | exact Sees.root (by assumption) w hw | exact Sees.own (by repeat (first | exact List.mem_cons_self | exact List.mem_append_left _ (by assumption) | apply List.mem_cons_of_mem | apply List.mem_append_right)) w hw) (by first | exact Sees.root (by assumption) w hw | exact Sees.own (by repeat (first | exact List.mem_cons_self | exact List.mem_append_left _ (by assumption) | apply List.mem_cons_of_mem | apply List.mem_append_right)) w hw) (by first | exact Sees.root (by assumption) w hw | exact Sees.own (by repeat (first | exact List.mem_cons_self | exact List.mem_append_left _ (by assumption) | apply List.mem_cons_of_mem | apply List.mem_append_right)) w hw) (by first | exact Sees.root (by assumption) w hw | exact Sees.own (by repeat (first | exact List.mem_cons_self | exact List.mem_append_left _ (by assumption) | apply List.mem_cons_of_mem | apply List.mem_append_right)) w hw) hcz.ok (nQ_length ..) (nI_length ..)))) ?_
                  refine VL.r (.inl rfl) rfl (by decide) (yr_move rfl rfl) ?_
                  refine VL.r (.inl rfl) rfl (by decide) (yr_extract rfl rfl rfl (by nofun)) ?_
                  refine VL.r (.inl rfl) rfl (by decide) (yr_extract rfl rfl rfl (by nofun)) ?_
                  refine VL.r (.inl rfl) rfl (by decide) (yr_assign rfl rfl) ?_
                  refine VL.r (.inl rfl) rfl (by decide) (yr_assign rfl rfl) ?_
                  refine VL.nil ?_
                  refine VE.then_wp ?_
                  refine V.seq ?_
                  refine V.region ?_
                  refine VL.r (.inl rfl) rfl (by decide) (yr_move rfl rfl) ?_
                  refine VL.r (.inl rfl) rfl (by decide) (yr_move rfl rfl) ?_
                  refine VX.split 142 _ rfl (fun h11 => ?_) (fun h11 => ?_)
                  · skip
                    refine VL.r (.inr ⟨_, _, _, rfl, rfl, rfl⟩) rfl (by decide) (yr_move rfl rfl) ?_
                    refine VL.r (.inl rfl) rfl (by decide) (yr_pick_t rfl rfl rfl) ?_
                    refine VL.r (.inl rfl) rfl (by decide) (yr_move rfl rfl) ?_
                    refine VX.split 145 _ rfl (fun h12 => ?_) (fun h12 => ?_)
                    · skip
                      refine VL.r (.inr ⟨_, _, _, rfl, rfl, rfl⟩) rfl (by decide) (yr_move rfl rfl) ?_
                      refine VL.r (.inl rfl) rfl (by decide) (yr_pick_t rfl rfl rfl) ?_
                      refine VL.r (.inl rfl) rfl (by decide) (yr_move rfl rfl) ?_
                      refine VX.split 148 _ rfl (fun h13 => ?_) (fun h13 => ?_)
                      · skip
                        refine VL.r (.inr ⟨_, _, _, rfl, rfl, rfl⟩) rfl (by decide) (yr_move rfl rfl) ?_
                        refine VL.r (.inr ⟨_, _, _, rfl, rfl, rfl⟩) rfl (by decide) (yr_move rfl rfl) ?_
                        refine VL.r (.inr ⟨_, _, _, rfl, rfl, rfl⟩) rfl (by decide) (yr_float (b := 981668463) rfl (.inl rfl) rfl rfl) ?_
                        refine VL.r (.inr ⟨_, _, _, rfl, rfl, rfl⟩) rfl (by decide) (yr_fcmp rfl (.inr (.inr (.inr (.inl rfl)))) rfl rfl) ?_
                        refine VL.r (.inl rfl) rfl (by decide) (yr_pick_t rfl rfl rfl) ?_
                        refine VL.r (.inl rfl) rfl (by decide) (yr_move rfl rfl) ?_
                        refine VX.split 154 _ rfl (fun h14 => ?_) (fun h14 => ?_)
                        · skip
                          refine VL.r (.inr ⟨_, _, _, rfl, rfl, rfl⟩) rfl (by decide) (yr_move rfl rfl) ?_
                          refine VL.r (.inr ⟨_, _, _, rfl, rfl, rfl⟩) rfl (by decide) (yr_fcmp (b := 3129152111) rfl (.inr (.inr (.inr (.inr (.inl rfl))))) rfl rfl) ?_
                          refine VL.r (.inl rfl) rfl (by decide) (yr_pick_t rfl rfl rfl) ?_
                          refine VL.r (.inl rfl) rfl (by decide) (yr_assign rfl rfl) ?_
                          refine VL.nil ?_
                          refine VE.then_wp ?_
                          refine V.ret ?_
                          refine ret1 rfl rfl (fun w1 hw => ?_)
                          first | exact ⟨congrArg Value.bool hen.2.2, hw.below⟩ | exact ⟨rfl, hw.below⟩
                        · skip
                          rw [hen.2.1] at h14; cases h14
                      · skip
                        cases h13
                    · skip
                      cases h12
                  · skip
                    cases h11

end Go.Proofs.Ytpoigbpaeniikaa

