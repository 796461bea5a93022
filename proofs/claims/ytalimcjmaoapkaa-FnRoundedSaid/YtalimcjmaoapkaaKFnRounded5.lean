/- Own texts of this claim, merged: WRidge, Abs, WWorst, Err, ErrB, ErrC, Le, Lf, Lg, Ru, Rv. -/
import Derived.KernelRfl
import Derived.Test.YtalimcjmaoapkaaKFnRounded4
namespace Go.Proofs.Ytalimcjmaoapkaa
open Go.RowKit
set_option linter.unusedVariables false
set_option linter.unusedSimpArgs false
set_option maxRecDepth 20000

theorem sz27_Ridge : (Try.prog.info? 27).map (·.size) = some 3 := by kernel_rfl
theorem known21_Ridge : Known Try.prog 21 := Known.mk' Try.func21 (by kernel_rfl)
theorem known27_Ridge : Known Try.prog 27 := Known.mk' Try.func27 (by kernel_rfl)

theorem c_implMisses {w : World} {a a1 a2 : Option Addr} {c c1 c2 : Nat} {f : Nat → Option Addr × Nat} {xss : List (List Nat)} {ws gs : List Nat} {b : Option Addr} {d : Nat} {x : List Nat} (hA : Cl w a (hd f xss)) (hR : Rws w f xss) (hW : Cl w a1 (fl ws)) (hG : Cl w a2 (fl gs)) (hB : Cl w b (fl x)) (hsz : bulk xss + ws.length + gs.length ≤ 1050000) : New Try.prog 14 [.agg #[.slice a xss.length c, .slice a1 ws.length c1, .slice a2 gs.length c2], .slice b x.length d] w (fun p : Option Addr × Nat => .tuple #[.slice p.1 (missesD xss ws gs x).length p.2, .bool (fitsD xss ws gs x)]) (fun p => [⟨p.1, fl (missesD xss ws gs x), p.2 * 1, 33⟩]) := by
  refine New.enter Try.func14 rfl Try.ntmps14 (Nat.le_of_ble_eq_true rfl) ?_
  have hr : ∀ i, i < xss.length → (xss.getD i []).length ≤ 1050000 := fun i hi => by have := bulk_row hi; omega
  have hxl : xss.length ≤ bulk xss := by unfold bulk; omega
  refine V.seq ?_
  refine V.region ?_
  refine VL.new1 (.inl rfl) rfl (by decide) (yn_box rfl rfl (.inr ⟨rfl, rfl⟩)) ?_
  intro b2
  refine VL.r (.inl rfl) rfl (by decide) (yr_assign (u := .slice none 0 0) rfl rfl) ?_
  refine VL.r (.inl rfl) rfl (by decide) (yr_assign (u := .bool false) rfl rfl) ?_
  refine VL.nil ?_
  refine VE.then_wp ?_
  refine V.seq ?_
  refine V.seq ?_
  refine V.region ?_
  refine VL.q (.inl rfl) rfl (by decide) (yq_loadS rfl Try.underlying27 sz27_Ridge rfl (by first | exact Sees.root (by assumption) | exact Sees.own (by repeat (first | exact List.mem_cons_self | exact List.mem_append_left _ (by assumption) | apply List.mem_cons_of_mem | apply List.mem_append_right)) | exact Sees.root (hR _ (by omega)) | exact Sees.own (RowsIn.mem (by repeat (first | exact RowsIn.here | exact RowsIn.last | apply RowsIn.there | apply RowsIn.thereS)) _ (by omega)) | exact Sees.own (WRowsIn.mem (by repeat (first | exact WRowsIn.here | exact WRowsIn.last | apply WRowsIn.there | apply WRowsIn.thereS)) _ (by omega))) rfl rfl rfl) ?_
  refine VL.r (.inl rfl) rfl (by decide) (yr_move rfl rfl) ?_
  refine VL.q (.inl rfl) rfl (by decide) (yq_callf rfl known21_Ridge (.cons rfl (.cons rfl .nil)) (fun w hw => (c_areCurrents (by first | exact Sees.root (by assumption) w hw | exact Sees.own (by repeat (first | exact List.mem_cons_self | exact List.mem_append_left _ (by assumption) | apply List.mem_cons_of_mem | apply List.mem_append_right)) w hw) (by first | exact Rws.root (by assumption) hw | exact Rws.own (by repeat (first | exact RowsIn.here | exact RowsIn.last | apply RowsIn.there | apply RowsIn.thereS)) hw) (by first | exact Sees.root (by assumption) w hw | exact Sees.own (by repeat (first | exact List.mem_cons_self | exact List.mem_append_left _ (by assumption) | apply List.mem_cons_of_mem | apply List.mem_append_right)) w hw) (by first | exact Sees.root (by assumption) w hw | exact Sees.own (by repeat (first | exact List.mem_cons_self | exact List.mem_append_left _ (by assumption) | apply List.mem_cons_of_mem | apply List.mem_append_right)) w hw) (by first | exact Sees.root (by assumption) w hw | exact Sees.own (by repeat (first | exact List.mem_cons_self | exact List.mem_append_left _ (by assumption) | apply List.mem_cons_of_mem | apply List.mem_append_right)) w hw) (by omega)))) ?_
  refine VL.r (.inl rfl) rfl (by decide) (yr_not rfl rfl) ?_
  refine VL.nil ?_
  refine VE.then_wp ?_
  refine V.cond rfl (fun h1 => ?_) (fun h1 => ?_)
  · skip
    replace h1 := bnot_t h1
    refine V.seq ?_
    refine V.region ?_
    refine VL.r (.inl rfl) rfl (by decide) (yr_assign (u := .slice none 0 0) rfl rfl) ?_
    refine VL.r (.inl rfl) rfl (by decide) (yr_assign (u := .bool false) rfl rfl) ?_
    refine VL.nil ?_
    refine VE.then_wp ?_
    refine V.ret ?_
    refine VE.then_ret ?_
    refine ret2 rfl rfl rfl (by nofun) (by nofun) (fun w1 hw => ?_)
    have hs : fitsD xss ws gs x = false := h1
    exact ⟨(none, 0), by rw [missesD_no hs, hs]; rfl, hw.below, by rw [missesD_no hs]; simp [fl, Ent.at], List.pairwise_singleton _ _⟩
  · skip
    replace h1 := bnot_f h1
    have hfit := h1
    refine V.skip ?_
    refine VE.then_wp ?_
    refine V.seq ?_
    refine V.region ?_
    refine VL.q (.inl rfl) rfl (by decide) (yq_loadS rfl Try.underlying27 sz27_Ridge rfl (by first | exact Sees.root (by assumption) | exact Sees.own (by repeat (first | exact List.mem_cons_self | exact List.mem_append_left _ (by assumption) | apply List.mem_cons_of_mem | apply List.mem_append_right)) | exact Sees.root (hR _ (by omega)) | exact Sees.own (RowsIn.mem (by repeat (first | exact RowsIn.here | exact RowsIn.last | apply RowsIn.there | apply RowsIn.thereS)) _ (by omega)) | exact Sees.own (WRowsIn.mem (by repeat (first | exact WRowsIn.here | exact WRowsIn.last | apply WRowsIn.there | apply WRowsIn.thereS)) _ (by omega))) rfl rfl rfl) ?_
    refine VL.r (.inl rfl) rfl (by decide) (yr_move rfl rfl) ?_
    refine VL.new1 (.inl rfl) rfl (by decide) (yn_callf rfl known27_Ridge (.cons rfl (.cons rfl .nil)) (fun w hw => (c_misses (by first | exact Sees.root (by assumption) w hw | exact Sees.own (by repeat (first | exact List.mem_cons_self | exact List.mem_append_left _ (by assumption) | apply List.mem_cons_of_mem | apply List.mem_append_right)) w hw) (by first | exact Rws.root (by assumption) hw | exact Rws.own (by repeat (first | exact RowsIn.here | exact RowsIn.last | apply RowsIn.there | apply RowsIn.thereS)) hw) (by first | exact Sees.root (by assumption) w hw | exact Sees.own (by repeat (first | exact List.mem_cons_self | exact List.mem_append_left _ (by assumption) | apply List.mem_cons_of_mem | apply List.mem_append_right)) w hw) (by first | exact Sees.root (by assumption) w hw | exact Sees.own (by repeat (first | exact List.mem_cons_self | exact List.mem_append_left _ (by assumption) | apply List.mem_cons_of_mem | apply List.mem_append_right)) w hw) (by first | exact Sees.root (by assumption) w hw | exact Sees.own (by repeat (first | exact List.mem_cons_self | exact List.mem_append_left _ (by assumption) | apply List.mem_cons_of_mem | apply List.mem_append_right)) w hw) (by omega) (by assumption)))) ?_
    rintro ⟨a12, c12⟩
    refine VL.r (.inl rfl) rfl (by decide) (yr_assign rfl rfl) ?_
    refine VL.r (.inl rfl) rfl (by decide) (yr_assign (u := .bool true) rfl rfl) ?_
    refine VL.nil ?_
    refine VE.then_wp ?_
    refine V.ret ?_
    refine ret2 rfl rfl rfl (by nofun) (by nofun) (fun w1 hw => ?_)
    exact ⟨(a12, c12), by rw [missesD_yes hfit, hfit, missL_length], by rw [missesD_yes hfit]; exact hw.out1⟩

end Go.Proofs.Ytalimcjmaoapkaa


namespace Go.Proofs.Ytalimcjmaoapkaa
open Go.RowKit

/-! ### the worst miss -/
def worstK (m : Nat → Nat) : Nat → Int × Nat
  | 0 => (-1, 0)
  | k + 1 => if fcmp .eql .f32 (fabs .f32 (m k)) (fabs .f32 (m k)) && (decide ((worstK m k).1 < 0) || fcmp .gtr .f32 (fabs .f32 (m k)) (worstK m k).2) then ((k : Int), fabs .f32 (m k)) else worstK m k
noncomputable def worstOk (xss : List (List Nat)) (ws gs x : List Nat) : Bool := fitsD xss ws gs x && !decide ((worstK (missAt xss ws x) xss.length).1 < 0)
noncomputable def worstI (xss : List (List Nat)) (ws gs x : List Nat) : Int := if worstOk xss ws gs x then (worstK (missAt xss ws x) xss.length).1 else 0
noncomputable def worstF (xss : List (List Nat)) (ws gs x : List Nat) : Nat := if worstOk xss ws gs x then (worstK (missAt xss ws x) xss.length).2 else 0
theorem worst_no0 {xss : List (List Nat)} {ws gs x : List Nat} (h : fitsD xss ws gs x = false) : worstOk xss ws gs x = false := by simp [worstOk, h]
theorem worst_no1 {xss : List (List Nat)} {ws gs x : List Nat} (h : (worstK (missAt xss ws x) xss.length).1 < 0) : worstOk xss ws gs x = false := by simp [worstOk, h]
theorem worst_yes {xss : List (List Nat)} {ws gs x : List Nat} (h : fitsD xss ws gs x = true) (h2 : 0 ≤ (worstK (missAt xss ws x) xss.length).1) : worstOk xss ws gs x = true := by
  have : ¬ (worstK (missAt xss ws x) xss.length).1 < 0 := by omega
  simp [worstOk, h, this]
theorem worstK_bd (m : Nat → Nat) : ∀ k, -1 ≤ (worstK m k).1 ∧ (worstK m k).1 ≤ k
  | 0 => by simp [worstK]
  | k + 1 => by
    have := worstK_bd m k
    unfold worstK
    split
    · simp only; omega
    · omega
theorem worstK_yes {m : Nat → Nat} {k : Nat} (h1 : fcmp .eql .f32 (fabs .f32 (m k)) (fabs .f32 (m k)) = true) (h2 : (worstK m k).1 < 0 ∨ fcmp .gtr .f32 (fabs .f32 (m k)) (worstK m k).2 = true) : worstK m (k + 1) = ((k : Int), fabs .f32 (m k)) := by
  rw [worstK, if_pos]
  rw [h1, Bool.true_and, Bool.or_eq_true, decide_eq_true_eq]
  exact h2
theorem worstK_no1 {m : Nat → Nat} {k : Nat} (h1 : fcmp .eql .f32 (fabs .f32 (m k)) (fabs .f32 (m k)) = false) : worstK m (k + 1) = worstK m k := by
  rw [worstK, h1, Bool.false_and]; rfl
theorem worstK_no2 {m : Nat → Nat} {k : Nat} (h1 : 0 ≤ (worstK m k).1) (h2 : fcmp .gtr .f32 (fabs .f32 (m k)) (worstK m k).2 = false) : worstK m (k + 1) = worstK m k := by
  rw [worstK, h2, decide_eq_false (by omega), Bool.or_self, Bool.and_false]; rfl
end Go.Proofs.Ytalimcjmaoapkaa


namespace Go.Proofs.Ytalimcjmaoapkaa
open Go.RowKit
set_option linter.unusedVariables false
set_option linter.unusedSimpArgs false
set_option maxRecDepth 20000

theorem ext42_Worst : ExtF Try.prog 42 Extern.MathFloatBits.float64bits := ⟨_, Try.func42, by kernel_rfl, by kernel_rfl, by kernel_rfl, by kernel_rfl⟩
theorem ext41_Worst : ExtF Try.prog 41 Extern.MathFloatBits.float64frombits := ⟨_, Try.func41, by kernel_rfl, by kernel_rfl, by kernel_rfl, by kernel_rfl⟩
theorem sz27_Worst : (Try.prog.info? 27).map (·.size) = some 3 := by kernel_rfl
theorem known21_Worst : Known Try.prog 21 := Known.mk' Try.func21 (by kernel_rfl)
theorem known27_Worst : Known Try.prog 27 := Known.mk' Try.func27 (by kernel_rfl)
theorem sz33_Worst : (Try.prog.info? 33).map (·.size) = some 1 := by kernel_rfl
theorem fb33_Worst : flatB Try.prog 33 = true := by kernel_rfl
theorem known30_Worst : Known Try.prog 30 := Known.mk' Try.func30 (by kernel_rfl)

theorem c_abs {w : World} (x : Nat) : Pure Try.prog 30 [.float .f64 x] w (.float .f64 (fabs .f64 x)) := by
  refine Pure.enter Try.func30 rfl Try.ntmps30 (Nat.le_of_ble_eq_true rfl) ?_
  refine V.seq ?_
  refine V.region ?_
  refine VL.r (.inl rfl) rfl (by decide) (yr_assign (u := .float .f64 0) rfl rfl) ?_
  refine VL.nil ?_
  refine VE.then_wp ?_
  refine V.seq ?_
  refine V.region ?_
  refine VL.r (.inl rfl) rfl (by decide) (yr_move rfl rfl) ?_
  refine VL.new (.inl rfl) rfl (by decide) (extN rfl ext42_Worst (.cons rfl .nil) (fun vs w h => ext_bitsN h)) ?_
  rintro ⟨b4, hb4⟩
  refine VL.r (.inl rfl) rfl (by decide) (yr_andNot63 rfl rfl rfl) ?_
  refine VL.q (.inl rfl) rfl (by decide) (yq_ext rfl ext41_Worst (.cons rfl .nil) (fun vs w h => ext_from64 vs w h)) ?_
  refine VL.r (.inl rfl) rfl (by decide) (yr_assign rfl rfl) ?_
  refine VL.nil ?_
  refine VE.then_wp ?_
  refine V.ret ?_
  refine ret1 rfl rfl (fun w1 hw => ?_)
  exact ⟨congrArg (Value.float .f64) (by rw [cb_abs64, hb4]), hw.below⟩

theorem c_implWorst {w : World} {a a1 a2 : Option Addr} {c c1 c2 : Nat} {f : Nat → Option Addr × Nat} {xss : List (List Nat)} {ws gs : List Nat} {b : Option Addr} {d : Nat} {x : List Nat} (hA : Cl w a (hd f xss)) (hR : Rws w f xss) (hW : Cl w a1 (fl ws)) (hG : Cl w a2 (fl gs)) (hB : Cl w b (fl x)) (hsz : bulk xss + ws.length + gs.length ≤ 1050000) : Pure Try.prog 15 [.agg #[.slice a xss.length c, .slice a1 ws.length c1, .slice a2 gs.length c2], .slice b x.length d] w (.tuple #[.int .i64 (worstI xss ws gs x), .float .f32 (worstF xss ws gs x), .bool (worstOk xss ws gs x)]) := by
  refine Pure.enter Try.func15 rfl Try.ntmps15 (Nat.le_of_ble_eq_true rfl) ?_
  have hr : ∀ i, i < xss.length → (xss.getD i []).length ≤ 1050000 := fun i hi => by have := bulk_row hi; omega
  have hxl : xss.length ≤ bulk xss := by unfold bulk; omega
  refine V.seq ?_
  refine V.region ?_
  refine VL.new1 (.inl rfl) rfl (by decide) (yn_box rfl rfl (.inr ⟨rfl, rfl⟩)) ?_
  intro b2
  refine VL.r (.inl rfl) rfl (by decide) (yr_assign (u := .int .i64 0) rfl rfl) ?_
  refine VL.r (.inl rfl) rfl (by decide) (yr_assign (u := .float .f32 0) rfl rfl) ?_
  refine VL.r (.inl rfl) rfl (by decide) (yr_assign (u := .bool false) rfl rfl) ?_
  refine VL.nil ?_
  refine VE.then_wp ?_
  refine V.seq ?_
  refine V.seq ?_
  refine V.region ?_
  refine VL.q (.inl rfl) rfl (by decide) (yq_loadS rfl Try.underlying27 sz27_Worst rfl (by first | exact Sees.root (by assumption) | exact Sees.own (by repeat (first | exact List.mem_cons_self | exact List.mem_append_left _ (by assumption) | apply List.mem_cons_of_mem | apply List.mem_append_right)) | exact Sees.root (hR _ (by omega)) | exact Sees.own (RowsIn.mem (by repeat (first | exact RowsIn.here | exact RowsIn.last | apply RowsIn.there | apply RowsIn.thereS)) _ (by omega)) | exact Sees.own (WRowsIn.mem (by repeat (first | exact WRowsIn.here | exact WRowsIn.last | apply WRowsIn.there | apply WRowsIn.thereS)) _ (by omega))) rfl rfl rfl) ?_
  refine VL.r (.inl rfl) rfl (by decide) (yr_move rfl rfl) ?_
  refine VL.q (.inl rfl) rfl (by decide) (yq_callf rfl known21_Worst (.cons rfl (.cons rfl .nil)) (fun w hw => (c_areCurrents (by first | exact Sees.root (by assumption) w hw | exact Sees.own (by repeat (first | exact List.mem_cons_self | exact List.mem_append_left _ (by assumption) | apply List.mem_cons_of_mem | apply List.mem_append_right)) w hw) (by first | exact Rws.root (by assumption) hw | exact Rws.own (by repeat (first | exact RowsIn.here | exact RowsIn.last | apply RowsIn.there | apply RowsIn.thereS)) hw) (by first | exact Sees.root (by assumption) w hw | exact Sees.own (by repeat (first | exact List.mem_cons_self | exact List.mem_append_left _ (by assumption) | apply List.mem_cons_of_mem | apply List.mem_append_right)) w hw) (by first | exact Sees.root (by assumption) w hw | exact Sees.own (by repeat (first | exact List.mem_cons_self | exact List.mem_append_left _ (by assumption) | apply List.mem_cons_of_mem | apply List.mem_append_right)) w hw) (by first | exact Sees.root (by assumption) w hw | exact Sees.own (by repeat (first | exact List.mem_cons_self | exact List.mem_append_left _ (by assumption) | apply List.mem_cons_of_mem | apply List.mem_append_right)) w hw) (by omega)))) ?_
  refine VL.r (.inl rfl) rfl (by decide) (yr_not rfl rfl) ?_
  refine VL.nil ?_
  refine VE.then_wp ?_
  refine V.cond rfl (fun h1 => ?_) (fun h1 => ?_)
  · skip
    replace h1 := bnot_t h1
    refine V.seq ?_
    refine V.region ?_
    refine VL.r (.inl rfl) rfl (by decide) (yr_assign (u := .int .i64 0) rfl rfl) ?_
    refine VL.r (.inl rfl) rfl (by decide) (yr_assign (u := .float .f32 0) rfl rfl) ?_
    refine VL.r (.inl rfl) rfl (by decide) (yr_assign (u := .bool false) rfl rfl) ?_
    refine VL.nil ?_
    refine VE.then_wp ?_
    refine V.ret ?_
    refine VE.then_ret ?_
    refine ret3 rfl rfl rfl rfl (by nofun) (by nofun) (by nofun) (fun w1 hw => ?_)
    have hs := worst_no0 (xss := xss) (ws := ws) (gs := gs) (x := x) h1
    exact ⟨by rw [worstI, worstF, hs]; rfl, hw.below⟩
  · skip
    replace h1 := bnot_f h1
    have hfit := h1
    obtain ⟨⟨v1, v2, v3, v4, v5, v6, v7, v8⟩, hxn, hrow⟩ := fits_is hfit
    refine V.skip ?_
    refine VE.then_wp ?_
    refine V.seq ?_
    refine V.region ?_
    refine VL.r (.inl rfl) rfl (by decide) (yr_assign (u := .int .i64 (-1)) rfl rfl) ?_
    refine VL.r (.inl rfl) rfl (by decide) (yr_assign (u := .float .f32 0) rfl rfl) ?_
    refine VL.nil ?_
    refine VE.then_wp ?_
    refine V.seq ?_
    refine V.seq ?_
    refine V.region ?_
    refine VL.q (.inl rfl) rfl (by decide) (yq_loadS rfl Try.underlying27 sz27_Worst rfl (by first | exact Sees.root (by assumption) | exact Sees.own (by repeat (first | exact List.mem_cons_self | exact List.mem_append_left _ (by assumption) | apply List.mem_cons_of_mem | apply List.mem_append_right)) | exact Sees.root (hR _ (by omega)) | exact Sees.own (RowsIn.mem (by repeat (first | exact RowsIn.here | exact RowsIn.last | apply RowsIn.there | apply RowsIn.thereS)) _ (by omega)) | exact Sees.own (WRowsIn.mem (by repeat (first | exact WRowsIn.here | exact WRowsIn.last | apply WRowsIn.there | apply WRowsIn.thereS)) _ (by omega))) rfl rfl rfl) ?_
    refine VL.r (.inl rfl) rfl (by decide) (yr_move rfl rfl) ?_
    refine VL.new1 (.inl rfl) rfl (by decide) (yn_callf rfl known27_Worst (.cons rfl (.cons rfl .nil)) (fun w hw => (c_misses (by first | exact Sees.root (by assumption) w hw | exact Sees.own (by repeat (first | exact List.mem_cons_self | exact List.mem_append_left _ (by assumption) | apply List.mem_cons_of_mem | apply List.mem_append_right)) w hw) (by first | exact Rws.root (by assumption) hw | exact Rws.own (by repeat (first | exact RowsIn.here | exact RowsIn.last | apply RowsIn.there | apply RowsIn.thereS)) hw) (by first | exact Sees.root (by assumption) w hw | exact Sees.own (by repeat (first | exact List.mem_cons_self | exact List.mem_append_left _ (by assumption) | apply List.mem_cons_of_mem | apply List.mem_append_right)) w hw) (by first | exact Sees.root (by assumption) w hw | exact Sees.own (by repeat (first | exact List.mem_cons_self | exact List.mem_append_left _ (by assumption) | apply List.mem_cons_of_mem | apply List.mem_append_right)) w hw) (by first | exact Sees.root (by assumption) w hw | exact Sees.own (by repeat (first | exact List.mem_cons_self | exact List.mem_append_left _ (by assumption) | apply List.mem_cons_of_mem | apply List.mem_append_right)) w hw) (by omega) (by assumption)))) ?_
    rintro ⟨a18, c18⟩
    refine VL.r (.inl rfl) rfl (by decide) (yr_len rfl Try.underlying25 rfl) ?_
    refine VL.r (.inl rfl) rfl (by decide) (yr_move (u := .int .i64 0) rfl rfl) ?_
    refine VL.nil ?_
    refine VE.then_wp ?_
    refine V.block ?_
    refine V.loops (G := Nat) [(18, _), (19, _)] (fun (k : Nat) => k ≤ xss.length) (fun (k : Nat) => [(7, .int .i64 (worstK (missAt xss ws x) k).1), (8, .float .f32 (worstK (missAt xss ws x) k).2), (20, .int .i64 (k : Int))]) (fun (k : Nat) => xss.length - k) 0 (.cons rfl (.cons rfl .nil)) (.cons rfl (.cons rfl (.cons rfl .nil))) ?_ ?_
    · exact (by omega)
    rintro k hk
    show V _ _ _ _ ([(7, .int .i64 (worstK (missAt xss ws x) k).1), (8, .float .f32 (worstK (missAt xss ws x) k).2), (20, .int .i64 (k : Int))] ++ [(18, _), (19, _)]) _ _
    have hbd := worstK_bd (missAt xss ws x) k
    refine V.seq ?_
    refine V.region ?_
    refine VL.r (.inl rfl) rfl (by decide) (yr_icmp rfl (.inr (.inr (.inl rfl))) rfl rfl) ?_
    refine VL.nil ?_
    refine VE.then_wp ?_
    refine V.seq ?_
    refine V.cond rfl (fun h2 => ?_) (fun h2 => ?_)
    · skip
      replace h2 := ic_lss h2
      refine V.skip ?_
      refine VE.then_wp ?_
      refine V.seq ?_
      refine V.block ?_
      refine V.seq ?_
      refine V.region ?_
      refine VL.r (.inl rfl) rfl (by decide) (yr_move rfl rfl) ?_
      refine VL.q (.inl rfl) rfl (by decide) (yq_idx (k := k) rfl Try.underlying25 sz33_Worst rfl rfl (by first | exact Sees.root (by assumption) | exact Sees.own (by repeat (first | exact List.mem_cons_self | exact List.mem_append_left _ (by assumption) | apply List.mem_cons_of_mem | apply List.mem_append_right)) | exact Sees.root (hR _ (by omega)) | exact Sees.own (RowsIn.mem (by repeat (first | exact RowsIn.here | exact RowsIn.last | apply RowsIn.there | apply RowsIn.thereS)) _ (by omega)) | exact Sees.own (WRowsIn.mem (by repeat (first | exact WRowsIn.here | exact WRowsIn.last | apply WRowsIn.there | apply WRowsIn.thereS)) _ (by omega))) (by first | rfl | omega | (push_cast; rfl) | (push_cast; omega) | exact tmod_nat _ _) (by first | exact fl_length _ | (rw [fl_length, missL_length])) (by first | omega | (rw [missL_length]; omega))) ?_
      refine VL.q (.inl rfl) rfl (by decide) (yq_loadF rfl fb33_Worst rfl (by first | exact Sees.root (by assumption) | exact Sees.own (by repeat (first | exact List.mem_cons_self | exact List.mem_append_left _ (by assumption) | apply List.mem_cons_of_mem | apply List.mem_append_right)) | exact Sees.root (hR _ (by omega)) | exact Sees.own (RowsIn.mem (by repeat (first | exact RowsIn.here | exact RowsIn.last | apply RowsIn.there | apply RowsIn.thereS)) _ (by omega)) | exact Sees.own (WRowsIn.mem (by repeat (first | exact WRowsIn.here | exact WRowsIn.last | apply WRowsIn.there | apply WRowsIn.thereS)) _ (by omega))) (by first | omega | (rw [missL_length]; omega))) ?_
      refine VL.r (.inl rfl) rfl (by decide) (yr_assign rfl rfl) ?_
      refine VL.r (.inl rfl) rfl (by decide) (yr_assign rfl rfl) ?_
      refine VL.nil ?_
      refine VE.then_wp ?_
      refine V.seq ?_
      refine V.region ?_
      refine VL.r (.inl rfl) rfl (by decide) (yr_move rfl rfl) ?_
      refine VL.r (.inl rfl) rfl (by decide) (yr_fconv rfl Try.underlying33 Try.underlying38 (by decide) rfl (fover_up _)) ?_
      refine VL.q (.inl rfl) rfl (by decide) (yq_callf rfl known30_Worst (.cons rfl .nil) (fun w hw => c_abs _)) ?_
      refine VL.r (.inl rfl) rfl (by decide) (yr_fconv rfl Try.underlying38 Try.underlying33 (by decide) rfl (abs_down _).2) ?_
      refine VL.r (.inl rfl) rfl (by decide) (yr_assign rfl rfl) ?_
      refine VL.nil ?_
      refine VE.then_wp ?_
      refine V.seq ?_
      refine V.region ?_
      refine VL.r (.inl rfl) rfl (by decide) (yr_move rfl rfl) ?_
      refine VL.r (.inl rfl) rfl (by decide) (yr_move rfl rfl) ?_
      refine VL.r (.inl rfl) rfl (by decide) (yr_fcmp rfl (.inl rfl) rfl rfl) ?_
      refine VL.r (.inl rfl) rfl (by decide) (yr_move rfl rfl) ?_
      refine VX.split 32 _ rfl (fun h3 => ?_) (fun h3 => ?_)
      · skip
        refine VL.r (.inr ⟨_, _, _, rfl, rfl, rfl⟩) rfl (by decide) (yr_move rfl rfl) ?_
        refine VL.r (.inr ⟨_, _, _, rfl, rfl, rfl⟩) rfl (by decide) (yr_icmp rfl (.inr (.inr (.inl rfl))) rfl rfl) ?_
        refine VL.r (.inr ⟨_, _, _, rfl, rfl, rfl⟩) rfl (by decide) (yr_move rfl rfl) ?_
        refine VX.split 35 _ rfl (fun h4 => ?_) (fun h4 => ?_)
        · skip
          replace h4 := ic_lss h4
          refine VL.no rfl rfl rfl rfl rfl (by decide) ?_
          refine VL.no rfl rfl rfl rfl rfl (by decide) ?_
          refine VL.no rfl rfl rfl rfl rfl (by decide) ?_
          refine VL.r (.inr ⟨_, _, _, rfl, rfl, rfl⟩) rfl (by decide) (yr_pick_t (u := .bool true) rfl rfl rfl) ?_
          refine VL.r (.inl rfl) rfl (by decide) (yr_pick_t rfl rfl rfl) ?_
          refine VL.nil ?_
          refine VE.then_wp ?_
          refine V.condT rfl ?_
          refine V.region ?_
          refine VL.r (.inl rfl) rfl (by decide) (yr_move rfl rfl) ?_
          refine VL.r (.inl rfl) rfl (by decide) (yr_move rfl rfl) ?_
          refine VL.r (.inl rfl) rfl (by decide) (yr_assign rfl rfl) ?_
          refine VL.r (.inl rfl) rfl (by decide) (yr_assign rfl rfl) ?_
          refine VL.nil ?_
          refine VE.block_normal ?_
          refine VE.then_wp ?_
          refine V.region ?_
          refine VL.r (.inl rfl) rfl (by decide) (yr_int rfl rfl rfl (.inl ⟨rfl, wrap_in (by omega)⟩)) ?_
          refine VL.r (.inl rfl) rfl (by decide) (yr_move rfl rfl) ?_
          refine VL.nil ?_
          refine VE.round (k + 1) ?_ ?_ ?_ ?_ ?_
          · exact (.cons (congrArg (fun i => some (Value.int .i64 i)) (by simp only [(abs_down _).1, missL_get xss ws x (show k < xss.length by omega)] at *; first | rw [worstK_yes (by assumption) (.inl (by assumption))] | rw [worstK_yes (by assumption) (.inr (by assumption))] | rw [worstK_no1 (by assumption)] | rw [worstK_no2 (by assumption) (by assumption)])) (.cons (congrArg (fun i => some (Value.float .f32 i)) (by simp only [(abs_down _).1, missL_get xss ws x (show k < xss.length by omega)] at *; first | rw [worstK_yes (by assumption) (.inl (by assumption))] | rw [worstK_yes (by assumption) (.inr (by assumption))] | rw [worstK_no1 (by assumption)] | rw [worstK_no2 (by assumption) (by assumption)])) (.cons rfl .nil)))
          · exact (.cons rfl (.cons rfl .nil))
          · exact (fun w hw => hw)
          · omega
          · (try dsimp only); omega
        · skip
          replace h4 := ic_lss' h4
          refine VL.r (.inr ⟨_, _, _, rfl, rfl, rfl⟩) rfl (by decide) (yr_move rfl rfl) ?_
          refine VL.r (.inr ⟨_, _, _, rfl, rfl, rfl⟩) rfl (by decide) (yr_move rfl rfl) ?_
          refine VL.r (.inr ⟨_, _, _, rfl, rfl, rfl⟩) rfl (by decide) (yr_fcmp rfl (.inr (.inr (.inr (.inr (.inl rfl))))) rfl rfl) ?_
          refine VL.r (.inr ⟨_, _, _, rfl, rfl, rfl⟩) rfl (by decide) (yr_pick_f rfl rfl rfl) ?_
          refine VL.r (.inl rfl) rfl (by decide) (yr_pick_t rfl rfl rfl) ?_
          refine VL.nil ?_
          refine VE.then_wp ?_
          refine V.cond rfl (fun h6 => ?_) (fun h6 => ?_)
          · skip
            refine V.region ?_
            refine VL.r (.inl rfl) rfl (by decide) (yr_move rfl rfl) ?_
            refine VL.r (.inl rfl) rfl (by decide) (yr_move rfl rfl) ?_
            refine VL.r (.inl rfl) rfl (by decide) (yr_assign rfl rfl) ?_
            refine VL.r (.inl rfl) rfl (by decide) (yr_assign rfl rfl) ?_
            refine VL.nil ?_
            refine VE.block_normal ?_
            refine VE.then_wp ?_
            refine V.region ?_
            refine VL.r (.inl rfl) rfl (by decide) (yr_int rfl rfl rfl (.inl ⟨rfl, wrap_in (by omega)⟩)) ?_
            refine VL.r (.inl rfl) rfl (by decide) (yr_move rfl rfl) ?_
            refine VL.nil ?_
            refine VE.round (k + 1) ?_ ?_ ?_ ?_ ?_
            · exact (.cons (congrArg (fun i => some (Value.int .i64 i)) (by simp only [(abs_down _).1, missL_get xss ws x (show k < xss.length by omega)] at *; first | rw [worstK_yes (by assumption) (.inl (by assumption))] | rw [worstK_yes (by assumption) (.inr (by assumption))] | rw [worstK_no1 (by assumption)] | rw [worstK_no2 (by assumption) (by assumption)])) (.cons (congrArg (fun i => some (Value.float .f32 i)) (by simp only [(abs_down _).1, missL_get xss ws x (show k < xss.length by omega)] at *; first | rw [worstK_yes (by assumption) (.inl (by assumption))] | rw [worstK_yes (by assumption) (.inr (by assumption))] | rw [worstK_no1 (by assumption)] | rw [worstK_no2 (by assumption) (by assumption)])) (.cons rfl .nil)))
            · exact (.cons rfl (.cons rfl .nil))
            · exact (fun w hw => hw)
            · omega
            · (try dsimp only); omega
          · skip
            refine V.skip ?_
            refine VE.block_normal ?_
            refine VE.then_wp ?_
            refine V.region ?_
            refine VL.r (.inl rfl) rfl (by decide) (yr_int rfl rfl rfl (.inl ⟨rfl, wrap_in (by omega)⟩)) ?_
            refine VL.r (.inl rfl) rfl (by decide) (yr_move rfl rfl) ?_
            refine VL.nil ?_
            refine VE.round (k + 1) ?_ ?_ ?_ ?_ ?_
            · exact (.cons (congrArg (fun i => some (Value.int .i64 i)) (by simp only [(abs_down _).1, missL_get xss ws x (show k < xss.length by omega)] at *; first | rw [worstK_yes (by assumption) (.inl (by assumption))] | rw [worstK_yes (by assumption) (.inr (by assumption))] | rw [worstK_no1 (by assumption)] | rw [worstK_no2 (by assumption) (by assumption)])) (.cons (congrArg (fun i => some (Value.float .f32 i)) (by simp only [(abs_down _).1, missL_get xss ws x (show k < xss.length by omega)] at *; first | rw [worstK_yes (by assumption) (.inl (by assumption))] | rw [worstK_yes (by assumption) (.inr (by assumption))] | rw [worstK_no1 (by assumption)] | rw [worstK_no2 (by assumption) (by assumption)])) (.cons rfl .nil)))
            · exact (.cons rfl (.cons rfl .nil))
            · exact (fun w hw => hw)
            · omega
            · (try dsimp only); omega
      · skip
        refine VL.no rfl rfl rfl rfl rfl (by decide) ?_
        refine VL.no rfl rfl rfl rfl rfl (by decide) ?_
        refine VL.no rfl rfl rfl rfl rfl (by decide) ?_
        refine VL.noU rfl rfl rfl rfl (by decide) ?_
        refine VL.noU rfl rfl rfl rfl (by decide) ?_
        refine VL.noU rfl rfl rfl rfl (by decide) ?_
        refine VL.no rfl rfl rfl rfl rfl (by decide) ?_
        refine VL.r (.inl rfl) rfl (by decide) (yr_pick_f (u := .bool false) rfl rfl rfl) ?_
        refine VL.nil ?_
        refine VE.then_wp ?_
        refine V.condF rfl ?_
        refine V.skip ?_
        refine VE.block_normal ?_
        refine VE.then_wp ?_
        refine V.region ?_
        refine VL.r (.inl rfl) rfl (by decide) (yr_int rfl rfl rfl (.inl ⟨rfl, wrap_in (by omega)⟩)) ?_
        refine VL.r (.inl rfl) rfl (by decide) (yr_move rfl rfl) ?_
        refine VL.nil ?_
        refine VE.round (k + 1) ?_ ?_ ?_ ?_ ?_
        · exact (.cons (congrArg (fun i => some (Value.int .i64 i)) (by simp only [(abs_down _).1, missL_get xss ws x (show k < xss.length by omega)] at *; first | rw [worstK_yes (by assumption) (.inl (by assumption))] | rw [worstK_yes (by assumption) (.inr (by assumption))] | rw [worstK_no1 (by assumption)] | rw [worstK_no2 (by assumption) (by assumption)])) (.cons (congrArg (fun i => some (Value.float .f32 i)) (by simp only [(abs_down _).1, missL_get xss ws x (show k < xss.length by omega)] at *; first | rw [worstK_yes (by assumption) (.inl (by assumption))] | rw [worstK_yes (by assumption) (.inr (by assumption))] | rw [worstK_no1 (by assumption)] | rw [worstK_no2 (by assumption) (by assumption)])) (.cons rfl .nil)))
        · exact (.cons rfl (.cons rfl .nil))
        · exact (fun w hw => hw)
        · omega
        · (try dsimp only); omega
    · skip
      replace h2 := ic_lss' h2
      refine V.exit ?_
      refine VE.then_exit ?_
      refine VE.then_exit ?_
      refine VE.block_here ?_
      refine VE.then_wp ?_
      refine V.seq ?_
      refine V.seq ?_
      refine V.region ?_
      refine VL.r (.inl rfl) rfl (by decide) (yr_move rfl rfl) ?_
      refine VL.r (.inl rfl) rfl (by decide) (yr_icmp rfl (.inr (.inr (.inl rfl))) rfl rfl) ?_
      refine VL.nil ?_
      refine VE.then_wp ?_
      refine V.cond rfl (fun h8 => ?_) (fun h8 => ?_)
      · skip
        replace h8 := ic_lss h8
        refine V.seq ?_
        refine V.region ?_
        refine VL.r (.inl rfl) rfl (by decide) (yr_assign (u := .int .i64 0) rfl rfl) ?_
        refine VL.r (.inl rfl) rfl (by decide) (yr_assign (u := .float .f32 0) rfl rfl) ?_
        refine VL.r (.inl rfl) rfl (by decide) (yr_assign (u := .bool false) rfl rfl) ?_
        refine VL.nil ?_
        refine VE.then_wp ?_
        refine V.ret ?_
        refine VE.then_ret ?_
        refine ret3 rfl rfl rfl rfl (by nofun) (by nofun) (by nofun) (fun w1 hw => ?_)
        obtain rfl : k = xss.length := by omega
        have hs := worst_no1 (gs := gs) (by assumption)
        exact ⟨by rw [worstI, worstF, hs]; rfl, hw.below⟩
      · skip
        replace h8 := ic_lss' h8
        refine V.skip ?_
        refine VE.then_wp ?_
        refine V.seq ?_
        refine V.region ?_
        refine VL.r (.inl rfl) rfl (by decide) (yr_move rfl rfl) ?_
        refine VL.r (.inl rfl) rfl (by decide) (yr_move rfl rfl) ?_
        refine VL.r (.inl rfl) rfl (by decide) (yr_assign rfl rfl) ?_
        refine VL.r (.inl rfl) rfl (by decide) (yr_assign rfl rfl) ?_
        refine VL.r (.inl rfl) rfl (by decide) (yr_assign (u := .bool true) rfl rfl) ?_
        refine VL.nil ?_
        refine VE.then_wp ?_
        refine V.ret ?_
        refine ret3 rfl rfl rfl rfl (by nofun) (by nofun) (by nofun) (fun w1 hw => ?_)
        obtain rfl : k = xss.length := by omega
        have hs := worst_yes hfit (by assumption)
        exact ⟨by rw [worstI, worstF, hs]; rfl, hw.below⟩

end Go.Proofs.Ytalimcjmaoapkaa


namespace Go.Proofs.Ytalimcjmaoapkaa
open Go.RowKit

theorem cut_even_ge (s : Bool) {n d q : Nat} (h : q * 2 ^ d ≤ n) : q ≤ Ieee.Toward.even.cut s n d := by
  unfold Ieee.Toward.cut
  simp only [Nat.shiftLeft_eq, Nat.one_mul]
  by_cases hd : d ≤ n.log2 + 2
  · rw [Nat.min_eq_left hd]
    have hlow : q ≤ n / 2 ^ d := (Nat.le_div_iff_mul_le (pow_pos' d)).2 h
    omega
  · have hlt : n < 2 ^ d := Nat.lt_of_lt_of_le (lt_log2 n) (Nat.pow_le_pow_right (by decide) (by omega))
    have : q = 0 := by
      rcases Nat.eq_zero_or_pos q with h0 | h0
      · exact h0
      · have := Nat.mul_le_mul_right (2 ^ d) h0
        rw [Nat.one_mul] at this
        omega
    rw [this]; exact Nat.zero_le _
/-- What is not less than the number of a word is written as no lesser word. -/
theorem nearest_ge (f : Ieee.Format) (s : Bool) {m r a b : Nat} {e : Int} (hr : r ≤ f.infRung) (he : e + a = f.leastPlace + b) (h : units f r * 2 ^ a ≤ m * 2 ^ b) : ∃ r', f.nearest s m e = f.word s r' ∧ r ≤ r' ∧ r' ≤ f.infRung := by
  unfold Ieee.Format.nearest
  have hb : 0 < f.binade := pow_pos' _
  have hbe : f.binade = 2 ^ f.fractionBits := rfl
  by_cases hm : m = 0
  · rw [if_pos hm]
    refine ⟨0, rfl, ?_, Nat.zero_le _⟩
    rw [hm, Nat.zero_mul] at h
    have hu : units f r = 0 := by
      have := Nat.le_of_lt_succ (Nat.lt_succ_of_le h)
      rcases Nat.eq_zero_or_pos (units f r) with h0 | h0
      · exact h0
      · have := Nat.mul_pos h0 (pow_pos' a); omega
    have := (units_zero f).1 hu
    omega
  rw [if_neg hm]
  refine ⟨_, rfl, Nat.le_min.2 ⟨?_, hr⟩, Nat.min_le_right _ _⟩
  obtain ⟨t, ht⟩ : ∃ t : Nat, max (e + (m.log2 : Int) - (f.fractionBits : Int)) f.leastPlace = f.leastPlace + (t : Int) :=
    ⟨(max (e + (m.log2 : Int) - (f.fractionBits : Int)) f.leastPlace - f.leastPlace).toNat, by omega⟩
  simp only [ht]
  have e1 : (f.leastPlace + (t : Int) - f.leastPlace).toNat = t := by omega
  rw [e1]
  have key : ∀ q : Nat, q * 2 ^ t * 2 ^ a ≤ m * 2 ^ b → q ≤ Ieee.Toward.even.cut s (m <<< (e - (f.leastPlace + t)).toNat) ((f.leastPlace + t) - e).toNat := by
    intro q hqt
    rw [Nat.mul_assoc, ← Nat.pow_add] at hqt
    rcases Nat.le_total (t + a) b with hle | hle
    · have g1 : (e - (f.leastPlace + t)).toNat = b - (t + a) := by omega
      have g2 : ((f.leastPlace + t) - e).toNat = 0 := by omega
      rw [g1, g2, cut_zero, shl_eq]
      have h9 : q * 2 ^ (t + a) ≤ m * 2 ^ (b - (t + a)) * 2 ^ (t + a) := by
        rw [Nat.mul_assoc m, ← Nat.pow_add, show b - (t + a) + (t + a) = b by omega]; exact hqt
      exact Nat.le_of_mul_le_mul_right h9 (pow_pos' _)
    · have g1 : (e - (f.leastPlace + t)).toNat = 0 := by omega
      have g2 : ((f.leastPlace + t) - e).toNat = t + a - b := by omega
      have : t + a = (t + a - b) + b := by omega
      rw [this, Nat.pow_add, ← Nat.mul_assoc] at hqt
      have hm' := Nat.le_of_mul_le_mul_right hqt (pow_pos' b)
      rw [g1, g2, shl_eq, Nat.pow_zero, Nat.mul_one]
      exact cut_even_ge s hm'
  have hfull : 1 ≤ t → f.binade ≤ Ieee.Toward.even.cut s (m <<< (e - (f.leastPlace + t)).toNat) ((f.leastPlace + t) - e).toNat := by
    intro h1
    refine key _ ?_
    have h2 := Nat.log2_self_le hm
    have h3 : f.fractionBits + t + a = b + m.log2 := by omega
    rw [hbe, ← Nat.pow_add, ← Nat.pow_add, h3, Nat.pow_add, Nat.mul_comm]
    exact Nat.mul_le_mul_right _ h2
  by_cases hrb : r < f.binade
  · have hur : units f r = r := by unfold units; rw [if_pos hrb]
    rcases Nat.eq_zero_or_pos t with h0 | h0
    · subst h0
      have := key r (by rw [Nat.pow_zero, Nat.mul_one, ← hur]; exact h)
      omega
    · have := hfull h0
      omega
  · have hq1 : 1 ≤ r / f.binade := (Nat.le_div_iff_mul_le hb).2 (by omega)
    have hmod := Nat.mod_lt r hb
    have hur : units f r = (f.binade + r % f.binade) * 2 ^ (r / f.binade - 1) := by unfold units; rw [if_neg hrb]
    have hqne : f.binade + r % f.binade ≠ 0 := by omega
    have hlg : (units f r).log2 = f.fractionBits + (r / f.binade - 1) := by
      rw [hur, log2_mul_pow hqne]
      congr 1
      rw [Nat.log2_eq_iff hqne]
      rw [Nat.pow_succ, ← hbe]
      omega
    have hu : units f r ≠ 0 := by rw [hur]; exact Nat.mul_ne_zero hqne (Nat.ne_of_gt (pow_pos' _))
    have hl : (units f r).log2 + a ≤ m.log2 + b := by
      have := log2_mono h
      rwa [log2_mul_pow hm b, log2_mul_pow hu a] at this
    have hT : r / f.binade - 1 ≤ t := by omega
    have e2 := Nat.div_add_mod r f.binade
    rw [Nat.mul_comm] at e2
    rcases Nat.lt_or_eq_of_le hT with hlt | heq
    · have h4 := hfull (by omega)
      have h5 : (r / f.binade) * f.binade ≤ t * f.binade := Nat.mul_le_mul_right _ (by omega)
      omega
    · have hk := key (f.binade + r % f.binade) (by rw [← heq, ← hur]; exact h)
      have h5 : (t + 1) * f.binade = r / f.binade * f.binade := by congr 1; omega
      rw [Nat.add_mul, Nat.one_mul] at h5
      omega
/-- n steps of a grid are a number of single precision. -/
theorem er_rep {n c : Nat} (h : n ≤ 2 ^ 24) (hc : c ≤ 200) : ∃ r, r < FloatKind.f32.format.infRung ∧ units FloatKind.f32.format r = n * 2 ^ c := by
  have hb : FloatKind.f32.format.binade = 2 ^ 23 := by decide
  have hi : FloatKind.f32.format.infRung = 255 * 2 ^ 23 := by decide
  by_cases h0 : n < 2 ^ 24
  · by_cases h1 : n = 0
    · subst h1
      exact ⟨0, by decide, by rw [(units_zero _).2 rfl, Nat.zero_mul]⟩
    have hl : n.log2 ≤ 23 := by have := (Nat.log2_lt h1).2 h0; omega
    have g1 := Nat.log2_self_le h1
    have g2 : n < 2 ^ (n.log2 + 1) := Nat.lt_log2_self
    -- shift left until 24 bits are there, or until the grid is the least one
    obtain ⟨d, hd, hdc⟩ : ∃ d, d ≤ c ∧ (d = c ∧ n * 2 ^ d < 2 ^ 24 ∨ 2 ^ 23 ≤ n * 2 ^ d ∧ n * 2 ^ d < 2 ^ 24) := by
      by_cases hcl : c ≤ 23 - n.log2
      · refine ⟨c, Nat.le_refl _, .inl ⟨rfl, ?_⟩⟩
        calc n * 2 ^ c < 2 ^ (n.log2 + 1) * 2 ^ c := Nat.mul_lt_mul_of_pos_right g2 (pow_pos' _)
          _ = 2 ^ (n.log2 + 1 + c) := by rw [← Nat.pow_add]
          _ ≤ 2 ^ 24 := Nat.pow_le_pow_right (by decide) (by omega)
      · refine ⟨23 - n.log2, by omega, .inr ⟨?_, ?_⟩⟩
        · calc 2 ^ 23 = 2 ^ n.log2 * 2 ^ (23 - n.log2) := by rw [← Nat.pow_add]; congr 1; omega
            _ ≤ _ := Nat.mul_le_mul_right _ g1
        · calc n * 2 ^ (23 - n.log2) < 2 ^ (n.log2 + 1) * 2 ^ (23 - n.log2) := Nat.mul_lt_mul_of_pos_right g2 (pow_pos' _)
            _ = 2 ^ 24 := by rw [← Nat.pow_add]; congr 1; omega
    have hmul : n * 2 ^ c = n * 2 ^ d * 2 ^ (c - d) := by rw [Nat.mul_assoc, ← Nat.pow_add]; congr 2; omega
    rw [hmul]
    generalize n * 2 ^ d = m at hdc
    by_cases hm : m < 2 ^ 23
    · have hd2 : d = c := by rcases hdc with h2 | h2 <;> omega
      refine ⟨m, by rw [hi]; omega, ?_⟩
      unfold units
      rw [hb, if_pos hm, hd2, Nat.sub_self, Nat.pow_zero, Nat.mul_one]
    · have hm2 : m < 2 ^ 24 := by rcases hdc with h2 | h2 <;> omega
      refine ⟨(c - d + 1) * 2 ^ 23 + (m - 2 ^ 23), by rw [hi]; omega, ?_⟩
      unfold units
      rw [hb, if_neg (by omega)]
      have e1 : ((c - d + 1) * 2 ^ 23 + (m - 2 ^ 23)) % 2 ^ 23 = m - 2 ^ 23 := by
        rw [Nat.add_comm, Nat.add_mul_mod_self_right, Nat.mod_eq_of_lt (by omega)]
      have e2 : ((c - d + 1) * 2 ^ 23 + (m - 2 ^ 23)) / 2 ^ 23 = c - d + 1 := by
        rw [Nat.add_comm, Nat.add_mul_div_right _ _ (by decide), Nat.div_eq_of_lt (by omega), Nat.zero_add]
      rw [e1, e2, show 2 ^ 23 + (m - 2 ^ 23) = m by omega, Nat.add_sub_cancel]
  · obtain rfl : n = 2 ^ 24 := by omega
    refine ⟨(c + 2) * 2 ^ 23, by rw [hi]; omega, ?_⟩
    unfold units
    rw [hb, if_neg (by omega), Nat.mul_mod_left, Nat.mul_div_cancel _ (by decide), Nat.add_zero, show c + 2 - 1 = 1 + c by omega, Nat.pow_add, ← Nat.mul_assoc]
/-- Written: not farther than a step of the grid. -/
theorem er_core (s : Bool) {m a b c : Nat} {e : Int} (hc : c ≤ 200) (he : e + a = FloatKind.f32.format.leastPlace + b) (h : m * 2 ^ b ≤ 2 ^ 24 * 2 ^ c * 2 ^ a) :
    ∃ r, FloatKind.f32.format.nearest s m e = FloatKind.f32.format.word s r ∧ r < FloatKind.f32.format.infRung ∧ units FloatKind.f32.format r * 2 ^ a ≤ m * 2 ^ b + 2 ^ c * 2 ^ a ∧ m * 2 ^ b ≤ units FloatKind.f32.format r * 2 ^ a + 2 ^ c * 2 ^ a := by
  have hp : 0 < 2 ^ c * 2 ^ a := Nat.mul_pos (pow_pos' _) (pow_pos' _)
  generalize hG : 2 ^ c * 2 ^ a = G at *
  rw [Nat.mul_assoc, hG] at h
  generalize hN : m * 2 ^ b = N at *
  have hn1 : N / G ≤ 2 ^ 24 := Nat.div_le_of_le_mul (by rw [Nat.mul_comm]; exact h)
  have hdm := Nat.div_add_mod N G
  have hml := Nat.mod_lt N hp
  obtain ⟨r1, a1, a2⟩ := er_rep hn1 hc
  obtain ⟨t1, b1, b2, b3⟩ := nearest_ge FloatKind.f32.format s (m := m) (r := r1) (a := a) (b := b) (Nat.le_of_lt a1) he (by rw [a2, Nat.mul_assoc, hG, hN, Nat.mul_comm]; omega)
  -- the upper one
  obtain ⟨r2, c1, c2, c3⟩ : ∃ r2, r2 < FloatKind.f32.format.infRung ∧ N ≤ units FloatKind.f32.format r2 * 2 ^ a ∧ units FloatKind.f32.format r2 * 2 ^ a ≤ N + G := by
    by_cases hz : N % G = 0
    · exact ⟨r1, a1, by rw [a2, Nat.mul_assoc, hG, Nat.mul_comm]; omega, by rw [a2, Nat.mul_assoc, hG, Nat.mul_comm]; omega⟩
    · have hn2 : N / G + 1 ≤ 2 ^ 24 := by
        rcases Nat.lt_or_ge (N / G) (2 ^ 24) with h1 | h1
        · exact h1
        · have : G * (2 ^ 24) ≤ G * (N / G) := Nat.mul_le_mul_left _ h1
          rw [Nat.mul_comm] at this
          omega
      obtain ⟨r2, d1, d2⟩ := er_rep hn2 hc
      have e2 : (N / G + 1) * G = G * (N / G) + G := by rw [Nat.add_mul, Nat.one_mul, Nat.mul_comm]
      exact ⟨r2, d1, by rw [d2, Nat.mul_assoc, hG, e2]; omega, by rw [d2, Nat.mul_assoc, hG, e2]; omega⟩
  obtain ⟨t2, d1, d2⟩ := nearest_le FloatKind.f32.format s (m := m) (r := r2) (a := a) (b := b) he (by rw [hN]; exact c2)
  have ht : t1 = t2 := by
    have h1 := rng_word .f32 s (r := t1) b3
    have h2 := rng_word .f32 s (r := t2) (by omega)
    rw [← h1.1, ← h2.1, ← b1, ← d1]
  subst ht
  have m1 := Nat.mul_le_mul_right (2 ^ a) (units_mono FloatKind.f32.format b2)
  have m2 := Nat.mul_le_mul_right (2 ^ a) (units_mono FloatKind.f32.format d2)
  rw [a2, Nat.mul_assoc, hG, Nat.mul_comm] at m1
  exact ⟨t1, b1, by omega, by omega, by omega⟩
end Go.Proofs.Ytalimcjmaoapkaa


namespace Go.Proofs.Ytalimcjmaoapkaa
open Go.RowKit

/-- A step: 2^-24 in units of the least place. One is 2^24 steps. -/
def UU : Int := ((2 ^ 125 : Nat) : Int)
theorem UU_pos : 0 < UU := by unfold UU; exact_mod_cast pow_pos' 125
theorem UU_big {k : Nat} {K : Int} (hK : ((2 ^ k : Nat) : Int) = K) : K * (16777216 * UU) = ((2 ^ 24 * 2 ^ (125 + k) : Nat) : Int) ∧ K * UU = ((2 ^ (125 + k) : Nat) : Int) := by
  have e : 2 ^ k * 2 ^ 125 = 2 ^ (125 + k) := by rw [← Nat.pow_add, Nat.add_comm]
  have e2 : K * UU = ((2 ^ (125 + k) : Nat) : Int) := by rw [← hK, UU, ← Int.natCast_mul, e]
  refine ⟨?_, e2⟩
  rw [Int.mul_left_comm, e2, Int.natCast_mul]
  congr 1
theorem BB_is : (16777216 : Int) * UU = ((2 ^ 149 : Nat) : Int) := by
  have := (UU_big (k := 24) (K := 16777216) (by decide)).2
  rw [this]
/-- The word x is X units. -/
def apx (x : Nat) (X : Int) : Prop := x < 2 ^ FloatKind.f32.format.width ∧ rng FloatKind.f32.format x < FloatKind.f32.format.infRung ∧ sval FloatKind.f32.format x = X
section
variable {x y : Nat} {X Y : Int}
theorem er_word (s : Bool) {r : Nat} (hr : r < FloatKind.f32.format.infRung) : apx (FloatKind.f32.format.word s r) (if s then -(units FloatKind.f32.format r : Int) else (units FloatKind.f32.format r : Int)) := by
  obtain ⟨w1, w2⟩ := rng_word .f32 s (Nat.le_of_lt hr)
  refine ⟨?_, by rw [w1]; exact hr, ?_⟩
  · have hw : FloatKind.f32.format.infRung < FloatKind.f32.format.signWeight := by decide
    rw [width_pos]
    unfold Ieee.Format.word
    split <;> omega
  · unfold sval
    rw [w2, w1]
theorem apx_dy {v : Int} (h : dy .f32 x v) : apx x (v * 2 ^ dyU .f32) := ⟨h.1, h.2.1, h.2.2⟩
theorem apx.num (h : apx x X) : fnan .f32 x = false := fnan_fin h.2.1
theorem apx.units (h : apx x X) : units FloatKind.f32.format (rng FloatKind.f32.format x) = X.natAbs := by
  have := congrArg Int.natAbs h.2.2
  unfold sval at this
  split at this <;> simpa using this
theorem apx.sgn (h : apx x X) : (sgn FloatKind.f32.format x = true → X ≤ 0) ∧ (sgn FloatKind.f32.format x = false → 0 ≤ X) := by
  have := h.2.2
  unfold sval at this
  constructor <;> intro hs <;> rw [hs] at this <;> simp at this <;> omega
theorem er_sign {s : Bool} {N u c : Nat} {V : Int} (hN : V.natAbs = N) (h1 : s = true → V ≤ 0) (h2 : s = false → 0 ≤ V) (h3 : u ≤ N + c) (h4 : N ≤ u + c) :
    V - (c : Int) ≤ (if s then -(u : Int) else (u : Int)) ∧ (if s then -(u : Int) else (u : Int)) ≤ V + (c : Int) := by
  cases s
  · have := h2 rfl
    simp only [Bool.false_eq_true, if_false]
    omega
  · have := h1 rfl
    simp only [if_true]
    omega
theorem er_sum (t : Bool) (k : Nat) {K : Int} (hK : ((2 ^ k : Nat) : Int) = K) (hk : k ≤ 70) (hx : apx x X) (hy : apx y Y) (h1 : -(K * (16777216 * UU)) ≤ X + (if t then -Y else Y)) (h2 : X + (if t then -Y else Y) ≤ K * (16777216 * UU)) :
    ∃ Z, apx (((((FloatKind.f32.format.read x).sum (if t then (FloatKind.f32.format.read y).opposite else FloatKind.f32.format.read y)).map FloatKind.f32.format.write).getD (qn .f32))) Z ∧ X + (if t then -Y else Y) - K * UU ≤ Z ∧ Z ≤ X + (if t then -Y else Y) + K * UU := by
  obtain ⟨s, M, q, e1, e2, e3, e4⟩ := sum_units hx.2.1 hy.2.1 t
  rw [hx.2.2, hy.2.2] at e2 e3 e4
  generalize X + (if t then -Y else Y) = V at *
  obtain ⟨g1, g2⟩ := UU_big hK
  rw [g1] at h1 h2
  rw [g2]
  have hn : M * 2 ^ q ≤ 2 ^ 24 * 2 ^ (125 + k) * 2 ^ 0 := by rw [e2, Nat.pow_zero, Nat.mul_one]; omega
  obtain ⟨r, r1, r2, r3, r4⟩ := er_core s (a := 0) (b := q) (e := FloatKind.f32.format.leastPlace + (q : Int)) (by omega) (by omega) hn
  rw [Nat.pow_zero, Nat.mul_one, Nat.mul_one, e2] at r3 r4
  have hw : (((FloatKind.f32.format.read x).sum (if t then (FloatKind.f32.format.read y).opposite else FloatKind.f32.format.read y)).map FloatKind.f32.format.write).getD (qn .f32) = FloatKind.f32.format.word s r := by
    rw [e1]; exact r1
  rw [hw]
  exact ⟨_, er_word s r2, er_sign rfl e3 e4 r3 r4⟩
theorem er_add (k : Nat) {K : Int} (hK : ((2 ^ k : Nat) : Int) = K) (hk : k ≤ 70) (hx : apx x X) (hy : apx y Y) (h1 : -(K * (16777216 * UU)) ≤ X + Y) (h2 : X + Y ≤ K * (16777216 * UU)) : ∃ Z, apx (fop .add .f32 x y) Z ∧ X + Y - K * UU ≤ Z ∧ Z ≤ X + Y + K * UU :=
  er_sum false k hK hk hx hy h1 h2
theorem er_sub (k : Nat) {K : Int} (hK : ((2 ^ k : Nat) : Int) = K) (hk : k ≤ 70) (hx : apx x X) (hy : apx y Y) (h1 : -(K * (16777216 * UU)) ≤ X - Y) (h2 : X - Y ≤ K * (16777216 * UU)) : ∃ Z, apx (fop .sub .f32 x y) Z ∧ X - Y - K * UU ≤ Z ∧ Z ≤ X - Y + K * UU := by
  obtain ⟨Z, z1, z2, z3⟩ := er_sum true k hK hk hx hy (by simp only [if_true]; omega) (by simp only [if_true]; omega)
  simp only [if_true] at z2 z3
  exact ⟨Z, z1, by omega, by omega⟩
theorem sgn_xor (hx : apx x X) (hy : apx y Y) : ((sgn FloatKind.f32.format x ^^ sgn FloatKind.f32.format y) = true → X * Y ≤ 0) ∧ ((sgn FloatKind.f32.format x ^^ sgn FloatKind.f32.format y) = false → 0 ≤ X * Y) := by
  have sa := hx.sgn
  have sb := hy.sgn
  cases hsx : sgn FloatKind.f32.format x <;> cases hsy : sgn FloatKind.f32.format y
  · exact ⟨by simp, fun _ => Int.mul_nonneg (sa.2 hsx) (sb.2 hsy)⟩
  · exact ⟨fun _ => Int.mul_nonpos_of_nonneg_of_nonpos (sa.2 hsx) (sb.1 hsy), by simp⟩
  · exact ⟨fun _ => Int.mul_nonpos_of_nonpos_of_nonneg (sa.1 hsx) (sb.2 hsy), by simp⟩
  · exact ⟨by simp, fun _ => Int.mul_nonneg_of_nonpos_of_nonpos (sa.1 hsx) (sb.1 hsy)⟩
theorem lp32 : FloatKind.f32.format.leastPlace = -149 := by decide
theorem er_mul (k : Nat) {K : Int} (hK : ((2 ^ k : Nat) : Int) = K) (hk : k ≤ 70) (hx : apx x X) (hy : apx y Y) (h1 : -(K * (16777216 * UU) * (16777216 * UU)) ≤ X * Y) (h2 : X * Y ≤ K * (16777216 * UU) * (16777216 * UU)) :
    ∃ Z, apx (fop .mul .f32 x y) Z ∧ X * Y - K * UU * (16777216 * UU) ≤ Z * (16777216 * UU) ∧ Z * (16777216 * UU) ≤ X * Y + K * UU * (16777216 * UU) := by
  obtain ⟨m, e, a1, a2⟩ := read_number FloatKind.f32.format hx.2.1
  obtain ⟨n, d, b1, b2⟩ := read_number FloatKind.f32.format hy.2.1
  rw [hx.units] at a2
  rw [hy.units] at b2
  obtain ⟨g1, g2⟩ := UU_big hK
  have g3 := BB_is
  rw [g1] at h1 h2
  rw [g2]
  rw [g3] at h1 h2 ⊢
  rw [← Int.natCast_mul] at h1 h2
  have hxy : (X * Y).natAbs = m * n * 2 ^ (e + d) := by rw [Int.natAbs_mul, ← a2, ← b2, Nat.pow_add]; simp only [Nat.mul_assoc, Nat.mul_left_comm]
  have hn : m * n * 2 ^ (e + d) ≤ 2 ^ 24 * 2 ^ (125 + k) * 2 ^ 149 := by rw [← hxy]; omega
  obtain ⟨r, r1, r2, r3, r4⟩ := er_core (sgn FloatKind.f32.format x ^^ sgn FloatKind.f32.format y) (a := 149) (b := e + d) (e := FloatKind.f32.format.leastPlace + (e : Int) + (FloatKind.f32.format.leastPlace + (d : Int))) (by omega) (by rw [lp32]; omega) hn
  have hw : fop .mul .f32 x y = FloatKind.f32.format.word (sgn FloatKind.f32.format x ^^ sgn FloatKind.f32.format y) r := by
    unfold fop floatBits Ieee.Format.mul
    simp only [a1, b1, Ieee.Datum.product, Option.map_some, Option.getD_some]
    exact r1
  rw [hw]
  refine ⟨_, er_word _ r2, ?_⟩
  obtain ⟨s1, s2⟩ := sgn_xor hx hy
  have := er_sign (V := X * Y) hxy s1 s2 r3 r4
  have e9 : (if (sgn FloatKind.f32.format x ^^ sgn FloatKind.f32.format y) = true then -(units FloatKind.f32.format r : Int) else (units FloatKind.f32.format r : Int)) * ((2 ^ 149 : Nat) : Int) =
      (if (sgn FloatKind.f32.format x ^^ sgn FloatKind.f32.format y) = true then -((units FloatKind.f32.format r * 2 ^ 149 : Nat) : Int) else ((units FloatKind.f32.format r * 2 ^ 149 : Nat) : Int)) := by
    split <;> simp only [Int.natCast_mul, Int.neg_mul]
  rw [e9, ← Int.natCast_mul]
  exact this
/-- A half of a whole number times a number. -/
theorem er_mulh (k : Nat) {K R : Int} (hK : ((2 ^ k : Nat) : Int) = K) (hk : k ≤ 70) (hx : apx x (R * (8388608 * UU))) (hy : apx y Y) (h1 : -(2 * K * (16777216 * UU)) ≤ R * Y) (h2 : R * Y ≤ 2 * K * (16777216 * UU)) :
    ∃ Z, apx (fop .mul .f32 x y) Z ∧ R * Y - 2 * K * UU ≤ 2 * Z ∧ 2 * Z ≤ R * Y + 2 * K * UU := by
  have hU := UU_pos
  have e1 : R * (8388608 * UU) * Y = R * Y * (8388608 * UU) := by rw [Int.mul_right_comm]
  have hp : (0 : Int) < 8388608 * UU := by omega
  have e2 : K * (16777216 * UU) * (16777216 * UU) = 2 * K * (16777216 * UU) * (8388608 * UU) := by
    rw [show (16777216 : Int) * UU = 2 * (8388608 * UU) by omega]
    generalize 8388608 * UU = P
    simp only [Int.mul_assoc, Int.mul_left_comm]
  obtain ⟨Z, z1, z2, z3⟩ := er_mul k hK hk hx hy (by rw [e1, e2, ← Int.neg_mul]; exact Int.mul_le_mul_of_nonneg_right h1 (Int.le_of_lt hp)) (by rw [e1, e2]; exact Int.mul_le_mul_of_nonneg_right h2 (Int.le_of_lt hp))
  refine ⟨Z, z1, ?_, ?_⟩
  · refine Int.le_of_mul_le_mul_right ?_ hp
    have e3 : (R * Y - 2 * K * UU) * (8388608 * UU) = R * (8388608 * UU) * Y - K * UU * (16777216 * UU) := by
      rw [e1, Int.sub_mul, show (16777216 : Int) * UU = 2 * (8388608 * UU) by omega]
      generalize 8388608 * UU = P
      simp only [Int.mul_assoc, Int.mul_left_comm]
    have e4 : 2 * Z * (8388608 * UU) = Z * (16777216 * UU) := by
      rw [show (16777216 : Int) * UU = 2 * (8388608 * UU) by omega]
      generalize 8388608 * UU = P
      simp only [Int.mul_assoc, Int.mul_left_comm]
    rw [e3, e4]; exact z2
  · refine Int.le_of_mul_le_mul_right ?_ hp
    have e3 : (R * Y + 2 * K * UU) * (8388608 * UU) = R * (8388608 * UU) * Y + K * UU * (16777216 * UU) := by
      rw [e1, Int.add_mul, show (16777216 : Int) * UU = 2 * (8388608 * UU) by omega]
      generalize 8388608 * UU = P
      simp only [Int.mul_assoc, Int.mul_left_comm]
    have e4 : 2 * Z * (8388608 * UU) = Z * (16777216 * UU) := by
      rw [show (16777216 : Int) * UU = 2 * (8388608 * UU) by omega]
      generalize 8388608 * UU = P
      simp only [Int.mul_assoc, Int.mul_left_comm]
    rw [e3, e4]; exact z3
end
end Go.Proofs.Ytalimcjmaoapkaa


namespace Go.Proofs.Ytalimcjmaoapkaa
open Go.RowKit

set_option maxRecDepth 20000
set_option linter.unusedSimpArgs false
theorem quo_sticky {D n : Nat} (hn : 0 < n) : n * (2 * (D / n) + (D % n != 0).toNat) ≤ 2 * D + n ∧ 2 * D ≤ n * (2 * (D / n) + (D % n != 0).toNat) + n := by
  have h1 := Nat.div_add_mod D n
  have h2 := Nat.mod_lt D hn
  rw [Nat.mul_add, Nat.mul_left_comm]
  by_cases h : D % n = 0
  · rw [h]; simp; omega
  · have : (D % n != 0) = true := by simpa using h
    rw [this]
    simp only [Bool.toNat_true, Nat.mul_one]
    omega
theorem quo_aux {p1 p2 p3 p4 : Nat} (h3 : p1 ≤ 2 * p2 + p3) (h : p2 ≤ p4 * 2 ^ 23) (h2 : p3 ≤ p4) : p1 ≤ p4 * (2 * 2 ^ 24) := by omega
theorem er_quo {x y : Nat} {X Y : Int} (k : Nat) {K : Int} (hK : ((2 ^ k : Nat) : Int) = K) (hk : k ≤ 70) (hx : apx x X) (hy : apx y Y) (hY : 0 < Y) (h1 : -(K * Y) ≤ 2 * X) (h2 : 2 * X ≤ K * Y) :
    ∃ Z, apx (fop .quo .f32 x y) Z ∧ X * (16777216 * UU) - 2 * (K * UU) * Y ≤ Z * Y ∧ Z * Y ≤ X * (16777216 * UU) + 2 * (K * UU) * Y := by
  obtain ⟨m, e, a1, a2⟩ := read_number FloatKind.f32.format hx.2.1
  obtain ⟨n, d, b1, b2⟩ := read_number FloatKind.f32.format hy.2.1
  obtain ⟨s1, s2⟩ := sgn_xor hx hy
  rw [hx.units] at a2
  rw [hy.units] at b2
  rw [(UU_big hK).2, BB_is]
  have hn : 0 < n := by
    rcases Nat.eq_zero_or_pos n with h0 | h0
    · rw [h0, Nat.zero_mul] at b2; omega
    · exact h0
  obtain ⟨S, rfl⟩ : ∃ S : Nat, Y = (S : Int) := ⟨Y.toNat, by omega⟩
  have hS : (((S : Nat) : Int)).natAbs = S := Int.natAbs_natCast S
  rw [hS] at b2
  generalize hA : X.natAbs = A at a2
  have hAS : 2 * A ≤ 2 ^ k * S := by
    rw [← hK, ← Int.natCast_mul] at h1 h2
    omega
  generalize hM : 25 + n.log2 - m.log2 = more
  -- the sticky bit does not matter much
  have hnm : m ≠ 0 → n * 2 ^ 24 ≤ m * 2 ^ more := by
    intro h0
    have g1 := Nat.log2_self_le h0
    have g2 : n < 2 ^ (n.log2 + 1) := Nat.lt_log2_self
    calc n * 2 ^ 24 ≤ 2 ^ (n.log2 + 1) * 2 ^ 24 := Nat.mul_le_mul_right _ (Nat.le_of_lt g2)
      _ = 2 ^ (n.log2 + 25) := by rw [← Nat.pow_add]
      _ ≤ 2 ^ (m.log2 + more) := Nat.pow_le_pow_right (by decide) (by omega)
      _ = 2 ^ m.log2 * 2 ^ more := by rw [← Nat.pow_add]
      _ ≤ _ := Nat.mul_le_mul_right _ g1
  obtain ⟨q1, q2⟩ := quo_sticky (D := m * 2 ^ more) hn
  generalize hMM : 2 * ((m * 2 ^ more) / n) + ((m * 2 ^ more) % n != 0).toNat = M at q1 q2
  -- in common units
  have hb : m * 2 ^ more * 2 ^ (e + 149) = A * 2 ^ more * 2 ^ 149 := by
    rw [← a2, Nat.pow_add]; simp only [Nat.mul_assoc, Nat.mul_comm, Nat.mul_left_comm]
  have ha : n * 2 ^ (d + more + 1) = S * 2 ^ more * 2 := by
    rw [← b2, Nat.pow_succ, Nat.pow_add]; simp only [Nat.mul_assoc]
  have hAS2 : A * 2 ^ more * 2 ^ 149 ≤ S * 2 ^ more * (2 ^ 23 * 2 ^ (125 + k)) := by
    have e3 : 2 ^ 23 * 2 ^ (125 + k) = 2 ^ k * 2 ^ 148 := by rw [← Nat.pow_add, ← Nat.pow_add, show 23 + (125 + k) = k + 148 by omega]
    have e4' : ∀ c : Nat, 2 ^ (c + 1) = 2 * 2 ^ c := fun c => by rw [Nat.pow_succ, Nat.mul_comm]
    have e4 : (2 : Nat) ^ 149 = 2 * 2 ^ 148 := e4' 148
    rw [e3, e4]
    generalize 2 ^ 148 = W at *
    generalize 2 ^ more = V
    calc A * V * (2 * W) = 2 * A * (V * W) := by simp only [Nat.mul_assoc, Nat.mul_comm, Nat.mul_left_comm]
      _ ≤ 2 ^ k * S * (V * W) := Nat.mul_le_mul_right _ hAS
      _ = _ := by simp only [Nat.mul_assoc, Nat.mul_comm, Nat.mul_left_comm]
  have hnb : n * 2 ^ (e + 149) ≤ S * 2 ^ more * 2 ^ (125 + k) ∨ M = 0 := by
    by_cases h0 : m = 0
    · right
      rw [← hMM, h0]; simp
    · left
      have h3 := Nat.mul_le_mul_right (2 ^ (e + 149)) (hnm h0)
      rw [hb] at h3
      have h4 := Nat.le_trans h3 hAS2
      have e5 : S * 2 ^ more * (2 ^ 23 * 2 ^ (125 + k)) = S * 2 ^ more * 2 ^ (125 + k) * 2 ^ 23 := by simp only [Nat.mul_assoc, Nat.mul_comm, Nat.mul_left_comm]
      have e6 : n * 2 ^ 24 * 2 ^ (e + 149) = n * 2 ^ (e + 149) * 2 ^ 24 := by simp only [Nat.mul_assoc, Nat.mul_left_comm, Nat.mul_comm]
      rw [e5, e6] at h4
      generalize n * 2 ^ (e + 149) = p at *
      generalize S * 2 ^ more * 2 ^ (125 + k) = q at *
      omega
  have hcore : M * 2 ^ (e + 149) ≤ 2 ^ 24 * 2 ^ (125 + k) * 2 ^ (d + more + 1) := by
    rcases hnb with hnb | h0
    · refine Nat.le_of_mul_le_mul_left ?_ hn
      have h3 := Nat.mul_le_mul_right (2 ^ (e + 149)) q1
      rw [Nat.add_mul, Nat.mul_assoc 2, hb, Nat.mul_assoc n M] at h3
      have e5 : n * (2 ^ 24 * 2 ^ (125 + k) * 2 ^ (d + more + 1)) = S * 2 ^ more * 2 ^ (125 + k) * (2 * 2 ^ 24) := by
        rw [Nat.mul_left_comm, ha]; simp only [Nat.mul_assoc, Nat.mul_left_comm, Nat.mul_comm]
      have e6 : S * 2 ^ more * (2 ^ 23 * 2 ^ (125 + k)) = S * 2 ^ more * 2 ^ (125 + k) * 2 ^ 23 := by simp only [Nat.mul_assoc, Nat.mul_comm, Nat.mul_left_comm]
      rw [e5]
      rw [e6] at hAS2
      exact quo_aux h3 hAS2 hnb
    · rw [h0, Nat.zero_mul]; exact Nat.zero_le _
  obtain ⟨r, r1, r2, r3, r4⟩ := er_core (sgn FloatKind.f32.format x ^^ sgn FloatKind.f32.format y) (m := M) (a := d + more + 1) (b := e + 149) (c := 125 + k) (e := FloatKind.f32.format.leastPlace + (e : Int) - (FloatKind.f32.format.leastPlace + (d : Int)) - more - 1) (by omega) (by rw [lp32]; omega) hcore
  have hw : fop .quo .f32 x y = FloatKind.f32.format.word (sgn FloatKind.f32.format x ^^ sgn FloatKind.f32.format y) r := by
    have e0 : fop .quo .f32 x y = ((((FloatKind.f32.format.read x).quotient 25 (FloatKind.f32.format.read y)).map FloatKind.f32.format.write).getD (qn .f32)) := rfl
    rw [e0, a1, b1]
    simp only [Ieee.Datum.quotient, if_neg (Nat.ne_of_gt hn), Option.map_some, Option.getD_some, hM]
    rw [← r1, ← hMM, shl_eq]
    rfl
  rw [hw]
  refine ⟨_, er_word _ r2, ?_⟩
  generalize units FloatKind.f32.format r = u at *
  have key : u * S ≤ A * 2 ^ 149 + 2 * 2 ^ (125 + k) * S ∧ A * 2 ^ 149 ≤ u * S + 2 * 2 ^ (125 + k) * S := by
    have t3 := Nat.mul_le_mul_left n r3
    have t4 := Nat.mul_le_mul_left n r4
    have e5 : n * (u * 2 ^ (d + more + 1)) = u * S * (2 ^ more * 2) := by rw [Nat.mul_left_comm, ha]; simp only [Nat.mul_assoc]
    have e6 : n * (2 ^ (125 + k) * 2 ^ (d + more + 1)) = 2 ^ (125 + k) * S * (2 ^ more * 2) := by rw [Nat.mul_left_comm, ha]; simp only [Nat.mul_assoc]
    rw [Nat.mul_add, e5, e6] at t3 t4
    have u1 := Nat.mul_le_mul_right (2 ^ (e + 149)) q1
    have u2 := Nat.mul_le_mul_right (2 ^ (e + 149)) q2
    rw [Nat.add_mul, Nat.mul_assoc 2, hb, Nat.mul_assoc n M] at u1 u2
    have e7 : A * 2 ^ more * 2 ^ 149 = A * 2 ^ 149 * 2 ^ more := by simp only [Nat.mul_assoc, Nat.mul_comm, Nat.mul_left_comm]
    rw [e7] at u1 u2
    have hP : 0 < 2 ^ more * 2 := Nat.mul_pos (pow_pos' _) (by decide)
    have e8 : S * 2 ^ more * 2 ^ (125 + k) = 2 ^ (125 + k) * S * 2 ^ more := by simp only [Nat.mul_assoc, Nat.mul_comm, Nat.mul_left_comm]
    have z1 : ∀ v : Nat, v * (2 ^ more * 2) = 2 * (v * 2 ^ more) := by intro v; simp only [Nat.mul_assoc, Nat.mul_comm, Nat.mul_left_comm]
    have z2 : 2 * 2 ^ (125 + k) * S * (2 ^ more * 2) = 4 * (2 ^ (125 + k) * S * 2 ^ more) := by
      rw [z1, Nat.mul_assoc 2, Nat.mul_assoc 2]; omega
    rcases hnb with hnb | h0
    · rw [e8] at hnb
      refine ⟨Nat.le_of_mul_le_mul_right ?_ hP, Nat.le_of_mul_le_mul_right ?_ hP⟩
      · rw [Nat.add_mul, z2, z1 (A * 2 ^ 149), z1 (u * S)]
        rw [z1 (u * S), z1 (2 ^ (125 + k) * S)] at t3
        generalize u * S * 2 ^ more = v1 at *
        generalize n * (M * 2 ^ (e + 149)) = v2 at *
        generalize 2 ^ (125 + k) * S * 2 ^ more = v3 at *
        generalize A * 2 ^ 149 * 2 ^ more = v4 at *
        generalize n * 2 ^ (e + 149) = v5 at *
        omega
      · rw [Nat.add_mul, z2, z1 (A * 2 ^ 149), z1 (u * S)]
        rw [z1 (u * S), z1 (2 ^ (125 + k) * S)] at t4
        generalize u * S * 2 ^ more = v1 at *
        generalize n * (M * 2 ^ (e + 149)) = v2 at *
        generalize 2 ^ (125 + k) * S * 2 ^ more = v3 at *
        generalize A * 2 ^ 149 * 2 ^ more = v4 at *
        generalize n * 2 ^ (e + 149) = v5 at *
        omega
    · have hA0 : A = 0 := by
        by_cases hm : m = 0
        · rw [← a2, hm, Nat.zero_mul]
        · exfalso
          have g1 := hnm hm
          rw [h0, Nat.mul_zero] at q2
          omega
      rw [h0, Nat.zero_mul, Nat.mul_zero, Nat.zero_add] at t3
      rw [hA0, Nat.zero_mul, Nat.zero_add]
      refine ⟨Nat.le_of_mul_le_mul_right (Nat.le_trans t3 ?_) hP, Nat.zero_le _⟩
      refine Nat.mul_le_mul_right _ ?_
      rw [Nat.mul_assoc]
      omega
  have hXB : (X * ((2 ^ 149 : Nat) : Int)).natAbs = A * 2 ^ 149 := by rw [Int.natAbs_mul, Int.natAbs_natCast, hA]
  have hB : (0 : Int) < ((2 ^ 149 : Nat) : Int) := by exact_mod_cast pow_pos' 149
  have t1 : (sgn FloatKind.f32.format x ^^ sgn FloatKind.f32.format y) = true → X * ((2 ^ 149 : Nat) : Int) ≤ 0 := fun h => by
    have := s1 h
    have : X ≤ 0 := Int.le_of_mul_le_mul_right (by rw [Int.zero_mul]; exact this) hY
    exact Int.mul_nonpos_of_nonpos_of_nonneg this (Int.le_of_lt hB)
  have t2 : (sgn FloatKind.f32.format x ^^ sgn FloatKind.f32.format y) = false → 0 ≤ X * ((2 ^ 149 : Nat) : Int) := fun h => by
    have := s2 h
    have : 0 ≤ X := Int.le_of_mul_le_mul_right (by rw [Int.zero_mul]; exact this) hY
    exact Int.mul_nonneg this (Int.le_of_lt hB)
  have := er_sign (V := X * ((2 ^ 149 : Nat) : Int)) hXB t1 t2 key.1 key.2
  have e9 : (if (sgn FloatKind.f32.format x ^^ sgn FloatKind.f32.format y) = true then -(u : Int) else (u : Int)) * (S : Int) =
      (if (sgn FloatKind.f32.format x ^^ sgn FloatKind.f32.format y) = true then -((u * S : Nat) : Int) else ((u * S : Nat) : Int)) := by
    split <;> simp only [Int.natCast_mul, Int.neg_mul]
  have e10 : 2 * ((2 ^ (125 + k) : Nat) : Int) * (S : Int) = ((2 * 2 ^ (125 + k) * S : Nat) : Int) := by simp only [Int.natCast_mul]; rfl
  rw [e9, e10]
  exact this
end Go.Proofs.Ytalimcjmaoapkaa


namespace Go.Proofs.Ytalimcjmaoapkaa
open Go.RowKit

/-- One, in units. -/
def BB : Int := 16777216 * UU
theorem BB_u : BB = 16777216 * UU := rfl
theorem BB_pos : 0 < BB := by have := UU_pos; unfold BB; omega
def sv (x : Nat) : Int := sval FloatKind.f32.format x
/-- Halves. -/
def hvI (y : Nat) : Int := sv y / ((2 ^ 148 : Nat) : Int)
theorem half_is : ((2 ^ 148 : Nat) : Int) = 8388608 * UU := by
  have := (UU_big (k := 23) (K := 8388608) (by decide)).2
  rw [this]
theorem apx.sv {x : Nat} {X : Int} (h : apx x X) : sv x = X := h.2.2
theorem dy_half {x : Nat} {v : Int} (h : dy .f32 x (64 * v)) : hvI x = v ∧ apx x (v * (8388608 * UU)) := by
  have e : 64 * v * 2 ^ dyU .f32 = v * ((2 ^ 148 : Nat) : Int) := by
    have : ((2 ^ 148 : Nat) : Int) = 64 * 2 ^ dyU .f32 := by decide
    rw [this]; grind
  have h2 := apx_dy h
  rw [e] at h2
  refine ⟨?_, by rw [← half_is]; exact h2⟩
  unfold hvI
  rw [h2.sv]
  exact Int.mul_ediv_cancel _ (by decide)
theorem mul_bd {a b m n : Int} (h1 : -m ≤ a ∧ a ≤ m) (h2 : -n ≤ b ∧ b ≤ n) : -(m * n) ≤ a * b ∧ a * b ≤ m * n := by
  have h := natAbs_mul_le (a := a) (b := b) (m := m.toNat) (n := n.toNat) (by omega) (by omega)
  have e : ((m.toNat * n.toNat : Nat) : Int) = m * n := by rw [Int.natCast_mul, Int.toNat_of_nonneg (by omega), Int.toNat_of_nonneg (by omega)]
  rw [← e]
  omega
/-- Numbers within the limit 1.5. -/
def InR (x : List Nat) : Prop := ∀ y ∈ x, ∃ Y, apx y Y ∧ -(25165824 * UU) ≤ Y ∧ Y ≤ 25165824 * UU
theorem InR.at {x : List Nat} (h : InR x) {k : Nat} (hk : k < x.length) : apx (x.getD k 0) (sv (x.getD k 0)) ∧ -(25165824 * UU) ≤ sv (x.getD k 0) ∧ sv (x.getD k 0) ≤ 25165824 * UU := by
  obtain ⟨Y, h1, h2, h3⟩ := getD_H h hk 0
  rw [h1.sv]
  exact ⟨h1, h2, h3⟩
theorem hv_H {y : Nat} (h : H9 y) : apx y (hvI y * (8388608 * UU)) ∧ -4 ≤ hvI y ∧ hvI y ≤ 4 := by
  obtain ⟨v, v1, v2, _⟩ := hH h
  obtain ⟨e1, e2⟩ := dy_half v2
  rw [e1]; exact ⟨e2, by omega, by omega⟩
theorem hv_W {y : Nat} (h : W17 y) : apx y (hvI y * (8388608 * UU)) ∧ -8 ≤ hvI y ∧ hvI y ≤ 8 := by
  obtain ⟨v, v1, v2, _⟩ := hW h
  obtain ⟨e1, e2⟩ := dy_half v2
  rw [e1]; exact ⟨e2, by omega, by omega⟩
theorem hv_G {y : Nat} (h : G4 y) : apx y (hvI y * (8388608 * UU)) ∧ 0 ≤ hvI y ∧ hvI y ≤ 4 := by
  obtain ⟨v, v1, v2, _⟩ := hG h
  obtain ⟨e1, e2⟩ := dy_half v2
  rw [e1]; exact ⟨e2, by omega, by omega⟩
theorem apx_zero : apx 0 0 := by
  have := apx_dy (dy_z (k := .f32))
  rwa [Int.zero_mul] at this
/-! ### what is missed -/
def dI (xs x : List Nat) : Nat → Int
  | 0 => 0
  | k + 1 => dI xs x k + hvI (xs.getD k 0) * sv (x.getD k 0)
def mI (xss : List (List Nat)) (ws x : List Nat) (i : Nat) : Int := hvI (ws.getD i 0) * BB - dI (xss.getD i []) x x.length
def cI (xss : List (List Nat)) (ws gs x : List Nat) : Nat → Int
  | 0 => 0
  | k + 1 => cI xss ws gs x k + hvI (gs.getD k 0) * (mI xss ws x k * mI xss ws x k)
section
variable {xs x ws gs : List Nat} {xss : List (List Nat)} {n i : Nat}
theorem prod_err (hy : H9 n) {y : Nat} {Y : Int} (h : apx y Y) (h1 : -(25165824 * UU) ≤ Y) (h2 : Y ≤ 25165824 * UU) : ∃ Z, apx (fop .mul .f32 n y) Z ∧ hvI n * Y - 8 * UU ≤ 2 * Z ∧ 2 * Z ≤ hvI n * Y + 8 * UU ∧ -(100663296 * UU) ≤ hvI n * Y ∧ hvI n * Y ≤ 100663296 * UU := by
  have hU := UU_pos
  obtain ⟨a1, a2, a3⟩ := hv_H hy
  obtain ⟨b1, b2⟩ := mul_bd (a := hvI n) (b := Y) (m := 4) (n := 25165824 * UU) ⟨a2, a3⟩ ⟨h1, h2⟩
  obtain ⟨Z, z1, z2, z3⟩ := er_mulh 2 (K := 4) rfl (by decide) a1 h (by omega) (by omega)
  exact ⟨Z, z1, by omega, by omega, by omega, by omega⟩
theorem dot_err (h1 : ∀ y ∈ xs, H9 y) (h2 : InR x) : ∀ k, k ≤ xs.length → k ≤ x.length → k ≤ 3 → ∃ Z, apx (dotK xs x k) Z ∧ dI xs x k - 40 * k * UU ≤ 2 * Z ∧ 2 * Z ≤ dI xs x k + 40 * k * UU ∧ -(100663296 * k * UU) ≤ dI xs x k ∧ dI xs x k ≤ 100663296 * k * UU
  | 0, _, _, _ => ⟨0, apx_zero, by simp [dI], by simp [dI], by simp [dI], by simp [dI]⟩
  | k + 1, ha, hb, hc => by
    have hU := UU_pos
    obtain ⟨D, d1, d2, d3, d4, d5⟩ := dot_err h1 h2 k (by omega) (by omega) (by omega)
    obtain ⟨y1, y2, y3⟩ := h2.at (show k < x.length by omega)
    obtain ⟨P, p1, p2, p3, p4, p5⟩ := prod_err (getD_H h1 (show k < xs.length by omega) 0) y1 y2 y3
    rw [dotK, dI]
    generalize hvI (xs.getD k 0) * sv (x.getD k 0) = t at *
    generalize dI xs x k = q at *
    have hk : k = 0 ∨ k = 1 ∨ k = 2 := by omega
    obtain ⟨Z, z1, z2, z3⟩ := er_add 4 (K := 16) rfl (by decide) d1 p1 (by rcases hk with rfl | rfl | rfl <;> omega) (by rcases hk with rfl | rfl | rfl <;> omega)
    exact ⟨Z, z1, by rcases hk with rfl | rfl | rfl <;> omega, by rcases hk with rfl | rfl | rfl <;> omega, by rcases hk with rfl | rfl | rfl <;> omega, by rcases hk with rfl | rfl | rfl <;> omega⟩
theorem miss_err (h : DDok xss ws gs n) (hx : InR x) (hl : x.length = n) (hi : i < xss.length) : ∃ Z, apx (missAt xss ws x i) Z ∧ mI xss ws x i - 152 * UU ≤ 2 * Z ∧ 2 * Z ≤ mI xss ws x i + 152 * UU ∧ -(26 * BB) ≤ mI xss ws x i ∧ mI xss ws x i ≤ 26 * BB := by
  have hU := UU_pos
  have hn := h.n2
  obtain ⟨r1, r2⟩ := getD_H h.rows hi []
  obtain ⟨D, d1, d2, d3, d4, d5⟩ := dot_err r2 hx x.length (by omega) (Nat.le_refl _) (by omega)
  obtain ⟨v1, v2, v3⟩ := hv_W (getD_H h.hw (show i < ws.length by rw [h.wl]; exact hi) 0)
  obtain ⟨w1, w2⟩ := mul_bd (a := hvI (ws.getD i 0)) (b := 8388608 * UU) (m := 8) (n := 8388608 * UU) ⟨v2, v3⟩ ⟨by omega, by omega⟩
  have e : hvI (ws.getD i 0) * BB = 2 * (hvI (ws.getD i 0) * (8388608 * UU)) := by unfold BB; grind
  unfold missAt mI
  rw [e, BB_u]
  generalize hvI (ws.getD i 0) * (8388608 * UU) = t at *
  generalize dI (xss.getD i []) x x.length = q at *
  have hk : x.length = 0 ∨ x.length = 1 ∨ x.length = 2 ∨ x.length = 3 := by omega
  obtain ⟨Z, z1, z2, z3⟩ := er_sub 4 (K := 16) rfl (by decide) v1 d1 (by rcases hk with hk | hk | hk | hk <;> rw [hk] at d2 d3 d4 d5 <;> omega) (by rcases hk with hk | hk | hk | hk <;> rw [hk] at d2 d3 d4 d5 <;> omega)
  exact ⟨Z, z1, by rcases hk with hk | hk | hk | hk <;> rw [hk] at d2 d3 d4 d5 <;> omega, by rcases hk with hk | hk | hk | hk <;> rw [hk] at d2 d3 d4 d5 <;> omega, by rcases hk with hk | hk | hk | hk <;> rw [hk] at d2 d3 d4 d5 <;> omega, by rcases hk with hk | hk | hk | hk <;> rw [hk] at d2 d3 d4 d5 <;> omega⟩
theorem term_id {Q P M G m B : Int} : 8 * (Q * B) - G * (m * m) = 8 * (Q * B - P * M) + 4 * (M * (2 * P - G * M)) + G * ((2 * M - m) * (2 * M + m)) := by grind
theorem term_err (h : DDok xss ws gs n) (hx : InR x) (hl : x.length = n) (hi : i < xss.length) : ∃ Q, apx (tm xss ws gs x i) Q ∧ hvI (gs.getD i 0) * (mI xss ws x i * mI xss ws x i) - 40000 * (UU * BB) ≤ 8 * (Q * BB) ∧ 8 * (Q * BB) ≤ hvI (gs.getD i 0) * (mI xss ws x i * mI xss ws x i) + 40000 * (UU * BB) ∧ -(381 * BB) ≤ Q ∧ Q ≤ 381 * BB := by
  have hU := UU_pos
  have hB := BB_pos
  have hBu := BB_u
  obtain ⟨M, m1, m2, m3, m4, m5⟩ := miss_err h hx hl hi
  obtain ⟨g1, g2, g3⟩ := hv_G (getD_H h.hg (show i < gs.length by rw [h.gl]; exact hi) 0)
  unfold tm
  generalize mI xss ws x i = m at *
  generalize hvI (gs.getD i 0) = G at *
  -- the product with the weight
  obtain ⟨a1, a2⟩ := mul_bd (a := G) (b := M) (m := 4) (n := 13 * BB + 76 * UU) ⟨by omega, g3⟩ ⟨by omega, by omega⟩
  obtain ⟨P, p1, p2, p3⟩ := er_mulh 5 (K := 32) rfl (by decide) g1 m1 (by omega) (by omega)
  -- the square
  have hP : -(27 * BB) ≤ P ∧ P ≤ 27 * BB := by omega
  have hM : -(14 * BB) ≤ M ∧ M ≤ 14 * BB := by omega
  obtain ⟨b1, b2⟩ := mul_bd hP hM
  have hBB : 0 < BB * BB := Int.mul_pos hB hB
  have e1 : 27 * BB * (14 * BB) = 378 * (BB * BB) := by grind
  rw [e1] at b1 b2
  have e7 : 512 * BB * BB = 512 * (BB * BB) := by grind
  obtain ⟨Q, q1, q2, q3⟩ := er_mul 9 (K := 512) rfl (by decide) p1 m1 (by rw [← hBu, e7]; omega) (by rw [← hBu, e7]; omega)
  rw [← hBu] at q2 q3
  have e2 : 512 * UU * BB = 512 * (UU * BB) := by grind
  rw [e2] at q2 q3
  have e3 := term_id (Q := Q) (P := P) (M := M) (G := G) (m := m) (B := BB)
  obtain ⟨c1, c2⟩ := mul_bd (a := M) (b := 2 * P - G * M) (m := 14 * BB) (n := 64 * UU) hM ⟨by omega, by omega⟩
  obtain ⟨d1, d2⟩ := mul_bd (a := 2 * M - m) (b := 2 * M + m) (m := 152 * UU) (n := 53 * BB) ⟨by omega, by omega⟩ ⟨by omega, by omega⟩
  obtain ⟨f1, f2⟩ := mul_bd (a := G) (b := (2 * M - m) * (2 * M + m)) (m := 4) (n := 152 * UU * (53 * BB)) ⟨by omega, g3⟩ ⟨d1, d2⟩
  have e4 : 14 * BB * (64 * UU) = 896 * (UU * BB) := by grind
  have e5 : 4 * (152 * UU * (53 * BB)) = 32224 * (UU * BB) := by grind
  rw [e4] at c1 c2
  rw [e5] at f1 f2
  have hUB : 0 < UU * BB := Int.mul_pos hU hB
  have e6 : BB * BB = 16777216 * (UU * BB) := by rw [BB_u]; grind
  refine ⟨Q, q1, ?_, ?_, ?_, ?_⟩
  · generalize M * (2 * P - G * M) = k1 at *
    generalize G * ((2 * M - m) * (2 * M + m)) = k2 at *
    omega
  · generalize M * (2 * P - G * M) = k1 at *
    generalize G * ((2 * M - m) * (2 * M + m)) = k2 at *
    omega
  · refine Int.le_of_mul_le_mul_right (a := BB) ?_ hB
    have : -(381 * BB) * BB = -(381 * (BB * BB)) := by grind
    omega
  · refine Int.le_of_mul_le_mul_right (a := BB) ?_ hB
    have : 381 * BB * BB = 381 * (BB * BB) := by grind
    omega
/-- The sum of the squares: nearly the exact one. -/
theorem sq_err (h : DDok xss ws gs n) (hx : InR x) (hl : x.length = n) : ∀ k, k ≤ xss.length → ∃ Q, apx (sqK xss ws gs x k) Q ∧ cI xss ws gs x k - 72768 * k * (UU * BB) ≤ 8 * (Q * BB) ∧ 8 * (Q * BB) ≤ cI xss ws gs x k + 72768 * k * (UU * BB) ∧ -(382 * k * BB) ≤ Q ∧ Q ≤ 382 * k * BB
  | 0, _ => ⟨0, apx_zero, by simp [cI], by simp [cI], by simp, by simp⟩
  | k + 1, hk => by
    have hU := UU_pos
    have hB := BB_pos
    have hBu := BB_u
    have hm := h.m2
    obtain ⟨S, s1, s2, s3, s4, s5⟩ := sq_err h hx hl k (by omega)
    obtain ⟨Q, q1, q2, q3, q4, q5⟩ := term_err h hx hl (show k < xss.length by omega)
    rw [sqK_s, cI]
    generalize hvI (gs.getD k 0) * (mI xss ws x k * mI xss ws x k) = t at *
    generalize cI xss ws gs x k = c at *
    have hk9 : 382 * (k : Int) * BB ≤ 3438 * BB := Int.mul_le_mul_of_nonneg_right (by omega) (by omega)
    obtain ⟨Z, z1, z2, z3⟩ := er_add 12 (K := 4096) rfl (by decide) s1 q1 (by rw [← hBu]; omega) (by rw [← hBu]; omega)
    have e1 : 382 * ((k + 1 : Nat) : Int) * BB = 382 * (k : Int) * BB + 382 * BB := by push_cast; grind
    have e2 : 72768 * ((k + 1 : Nat) : Int) * (UU * BB) = 72768 * (k : Int) * (UU * BB) + 72768 * (UU * BB) := by push_cast; grind
    have y1 := Int.mul_le_mul_of_nonneg_right z2 (Int.le_of_lt hB)
    have y2 := Int.mul_le_mul_of_nonneg_right z3 (Int.le_of_lt hB)
    have e3 : (S + Q - 4096 * UU) * BB = S * BB + Q * BB - 4096 * (UU * BB) := by grind
    have e4 : (S + Q + 4096 * UU) * BB = S * BB + Q * BB + 4096 * (UU * BB) := by grind
    rw [e3] at y1
    rw [e4] at y2
    exact ⟨Z, z1, by omega, by omega, by omega, by omega⟩
end
end Go.Proofs.Ytalimcjmaoapkaa


namespace Go.Proofs.Ytalimcjmaoapkaa
open Go.RowKit

/-- A quarter of a whole number times a number. -/
theorem er_mulq {x y : Nat} {Y : Int} (k : Nat) {K R : Int} (hK : ((2 ^ k : Nat) : Int) = K) (hk : k ≤ 70) (hx : apx x (R * (4194304 * UU))) (hy : apx y Y) (h1 : -(4 * K * BB) ≤ R * Y) (h2 : R * Y ≤ 4 * K * BB) :
    ∃ Z, apx (fop .mul .f32 x y) Z ∧ R * Y - 4 * K * UU ≤ 4 * Z ∧ 4 * Z ≤ R * Y + 4 * K * UU := by
  have hU := UU_pos
  have hp : (0 : Int) < 4194304 * UU := by omega
  have hB : (16777216 : Int) * UU = 4 * (4194304 * UU) := by omega
  rw [BB_u, hB] at h1 h2
  have e1 : R * (4194304 * UU) * Y = R * Y * (4194304 * UU) := by grind
  generalize hP : 4194304 * UU = P at *
  have e2 : K * (4 * P) * (4 * P) = 4 * K * (4 * P) * P := by grind
  obtain ⟨Z, z1, z2, z3⟩ := er_mul k hK hk hx hy (by rw [hB, e1, e2, ← Int.neg_mul]; exact Int.mul_le_mul_of_nonneg_right h1 (Int.le_of_lt hp)) (by rw [hB, e1, e2]; exact Int.mul_le_mul_of_nonneg_right h2 (Int.le_of_lt hp))
  rw [hB, e1] at z2 z3
  refine ⟨Z, z1, Int.le_of_mul_le_mul_right (a := P) ?_ hp, Int.le_of_mul_le_mul_right (a := P) ?_ hp⟩
  · have : (R * Y - 4 * K * UU) * P = R * Y * P - K * UU * (4 * P) := by grind
    have : 4 * Z * P = Z * (4 * P) := by grind
    omega
  · have : (R * Y + 4 * K * UU) * P = R * Y * P + K * UU * (4 * P) := by grind
    have : 4 * Z * P = Z * (4 * P) := by grind
    omega
/-! ### the sums of a step -/
def rI (xss : List (List Nat)) (j i : Nat) : Int := hvI ((xss.getD i []).getD j 0)
def sI (xss : List (List Nat)) (gs : List Nat) (j : Nat) : Nat → Int
  | 0 => 0
  | k + 1 => sI xss gs j k + hvI (gs.getD k 0) * rI xss j k * rI xss j k
def tI (xss : List (List Nat)) (ws gs x : List Nat) (j : Nat) : Nat → Int
  | 0 => 0
  | k + 1 => tI xss ws gs x j k + hvI (gs.getD k 0) * rI xss j k * (mI xss ws x k + rI xss j k * sv (x.getD j 0))
section
variable {xs x ws gs : List Nat} {xss : List (List Nat)} {n i j : Nat}
theorem r_dy (h : DDok xss ws gs n) (hi : i < xss.length) (hj : j < n) : dy .f32 ((xss.getD i []).getD j 0) (64 * rI xss j i) ∧ H9 ((xss.getD i []).getD j 0) ∧ -4 ≤ rI xss j i ∧ rI xss j i ≤ 4 := by
  obtain ⟨r1, r2⟩ := getD_H h.rows hi []
  have h9 := getD_H r2 (show j < (xss.getD i []).length by omega) 0
  obtain ⟨v, v1, v2, _⟩ := hH h9
  have e := (dy_half v2).1
  unfold rI
  rw [e]
  exact ⟨v2, h9, by omega, by omega⟩
theorem g_dy (h : DDok xss ws gs n) (hi : i < xss.length) : dy .f32 (gs.getD i 0) (64 * hvI (gs.getD i 0)) ∧ 1 ≤ hvI (gs.getD i 0) + 1 ∧ 0 ≤ hvI (gs.getD i 0) ∧ hvI (gs.getD i 0) ≤ 4 := by
  obtain ⟨v, v1, v2, _⟩ := hG (getD_H h.hg (show i < gs.length by rw [h.gl]; exact hi) 0)
  have e := (dy_half v2).1
  rw [e]
  exact ⟨v2, by omega, by omega, by omega⟩
theorem gr_dy (h : DDok xss ws gs n) (hi : i < xss.length) (hj : j < n) : dy .f32 (fop .mul .f32 (gs.getD i 0) ((xss.getD i []).getD j 0)) (32 * (hvI (gs.getD i 0) * rI xss j i)) ∧ -16 ≤ hvI (gs.getD i 0) * rI xss j i ∧ hvI (gs.getD i 0) * rI xss j i ≤ 16 := by
  obtain ⟨a1, _, a2, a3⟩ := r_dy h hi hj
  obtain ⟨b1, _, b2, b3⟩ := g_dy h hi
  obtain ⟨c1, c2⟩ := mul_bd (a := hvI (gs.getD i 0)) (b := rI xss j i) (m := 4) (n := 4) ⟨by omega, b3⟩ ⟨a2, a3⟩
  refine ⟨dy_mul b1 a1 (by grind) ?_, by omega, by omega⟩
  generalize hvI (gs.getD i 0) * rI xss j i = t at *
  omega
theorem grr_dy (h : DDok xss ws gs n) (hi : i < xss.length) (hj : j < n) : dy .f32 (fop .mul .f32 (fop .mul .f32 (gs.getD i 0) ((xss.getD i []).getD j 0)) ((xss.getD i []).getD j 0)) (16 * (hvI (gs.getD i 0) * rI xss j i * rI xss j i)) ∧ 0 ≤ hvI (gs.getD i 0) * rI xss j i * rI xss j i ∧ hvI (gs.getD i 0) * rI xss j i * rI xss j i ≤ 64 := by
  obtain ⟨a1, _, a2, a3⟩ := r_dy h hi hj
  obtain ⟨_, _, b2, b3⟩ := g_dy h hi
  obtain ⟨d1, d2, d3⟩ := gr_dy h hi hj
  obtain ⟨c1, c2⟩ := mul_bd (a := hvI (gs.getD i 0) * rI xss j i) (b := rI xss j i) (m := 16) (n := 4) ⟨d2, d3⟩ ⟨a2, a3⟩
  have h0 : 0 ≤ hvI (gs.getD i 0) * rI xss j i * rI xss j i := by
    rw [Int.mul_assoc]
    refine Int.mul_nonneg b2 ?_
    rcases Int.le_total 0 (rI xss j i) with h | h
    · exact Int.mul_nonneg h h
    · exact Int.mul_nonneg_of_nonpos_of_nonpos h h
  refine ⟨dy_mul d1 a1 (by grind) ?_, h0, by omega⟩
  generalize hvI (gs.getD i 0) * rI xss j i * rI xss j i = t at *
  omega
theorem limS_dy (h : DDok xss ws gs n) (hj : j < n) : ∀ k, k ≤ xss.length → dy .f32 (limS xss gs j k) (16 * sI xss gs j k) ∧ 0 ≤ sI xss gs j k ∧ sI xss gs j k ≤ 64 * k
  | 0, _ => ⟨dy_z, Int.le_refl _, Int.le_refl _⟩
  | k + 1, hk => by
    obtain ⟨a1, a2, a3⟩ := limS_dy h hj k (by omega)
    obtain ⟨b1, b2, b3⟩ := grr_dy h (show k < xss.length by omega) hj
    have hm := h.m2
    rw [limS, sI]
    generalize hvI (gs.getD k 0) * rI xss j k * rI xss j k = t at *
    generalize sI xss gs j k = q at *
    refine ⟨?_, by omega, by omega⟩
    have := dy_add a1 b1 (by omega)
    rwa [← Int.mul_add] at this
theorem limT_err (h : DDok xss ws gs n) (hx : InR x) (hl : x.length = n) (hj : j < n) : ∀ k, k ≤ xss.length → ∃ T, apx (limT xss ws gs x j k) T ∧ tI xss ws gs x j k - 12800 * k * UU ≤ 8 * T ∧ 8 * T ≤ tI xss ws gs x j k + 12800 * k * UU ∧ -(70 * k * BB) ≤ T ∧ T ≤ 70 * k * BB
  | 0, _ => ⟨0, apx_zero, by simp [tI], by simp [tI], by simp, by simp⟩
  | k + 1, hk => by
    have hU := UU_pos
    have hB := BB_pos
    have hBu := BB_u
    have hm := h.m2
    have hkx : k < xss.length := by omega
    obtain ⟨S, s1, s2, s3, s4, s5⟩ := limT_err h hx hl hj k (by omega)
    obtain ⟨M, m1, m2, m3, m4, m5⟩ := miss_err h hx hl hkx
    obtain ⟨_, r1, r2, r3⟩ := r_dy h hkx hj
    obtain ⟨x1, x2, x3⟩ := hx.at (show j < x.length by omega)
    obtain ⟨Z, z1, z2, z3, z4, z5⟩ := prod_err r1 x1 x2 x3
    obtain ⟨d1, d2, d3⟩ := gr_dy h hkx hj
    rw [limT, tI]
    have er : hvI ((xss.getD k []).getD j 0) = rI xss j k := rfl
    rw [er] at z2 z3 z4 z5
    have ea : apx (fop .mul .f32 (gs.getD k 0) ((xss.getD k []).getD j 0)) (hvI (gs.getD k 0) * rI xss j k * (4194304 * UU)) := by
      have := apx_dy d1
      have e9 : (32 : Int) * 2 ^ dyU .f32 = 4194304 * UU := by
        have := (UU_big (k := 22) (K := 4194304) (by decide)).2
        rw [this]; decide
      rw [← e9]
      have e8 : hvI (gs.getD k 0) * rI xss j k * (32 * 2 ^ dyU .f32) = 32 * (hvI (gs.getD k 0) * rI xss j k) * 2 ^ dyU .f32 := by grind
      rw [e8]; exact this
    generalize rI xss j k * sv (x.getD j 0) = t at *
    generalize mI xss ws x k = m at *
    generalize hvI (gs.getD k 0) * rI xss j k = H at *
    generalize tI xss ws gs x j k = q at *
    obtain ⟨A, a1, a2, a3⟩ := er_add 5 (K := 32) rfl (by decide) m1 z1 (by omega) (by omega)
    have hA : -(17 * BB) ≤ A ∧ A ≤ 17 * BB := by omega
    obtain ⟨b1, b2⟩ := mul_bd (a := H) (b := A) (m := 16) (n := 17 * BB) ⟨d2, d3⟩ hA
    obtain ⟨V, v1, v2, v3⟩ := er_mulq 7 (K := 128) rfl (by decide) ea a1 (by omega) (by omega)
    obtain ⟨c1, c2⟩ := mul_bd (a := H) (b := 2 * A - (m + t)) (m := 16) (n := 224 * UU) ⟨d2, d3⟩ ⟨by omega, by omega⟩
    have e1 : H * (2 * A - (m + t)) = 2 * (H * A) - H * (m + t) := by grind
    rw [e1] at c1 c2
    have hk9 : 70 * (k : Int) * BB ≤ 630 * BB := Int.mul_le_mul_of_nonneg_right (by omega) (by omega)
    generalize H * (m + t) = p at *
    generalize H * A = p2 at *
    obtain ⟨W, w1, w2, w3⟩ := er_add 10 (K := 1024) rfl (by decide) s1 v1 (by omega) (by omega)
    have e2 : 70 * ((k + 1 : Nat) : Int) * BB = 70 * (k : Int) * BB + 70 * BB := by push_cast; grind
    have e3 : 12800 * ((k + 1 : Nat) : Int) * UU = 12800 * (k : Int) * UU + 12800 * UU := by push_cast; grind
    exact ⟨W, w1, by omega, by omega, by omega, by omega⟩
/-! ### what a step does to the exact sum -/
theorem dI_set {y : Nat} : ∀ k, k ≤ x.length → dI xs (x.set j y) k = dI xs x k + (if j < k then hvI (xs.getD j 0) * (sv y - sv (x.getD j 0)) else 0)
  | 0, _ => by simp [dI]
  | k + 1, hk => by
    rw [dI, dI, dI_set k (by omega), getD_setN (by omega)]
    by_cases e : j = k
    · subst e
      rw [if_pos rfl, if_neg (by omega), if_pos (by omega)]
      grind
    · rw [if_neg e]
      by_cases e2 : j < k
      · rw [if_pos e2, if_pos (by omega)]; grind
      · rw [if_neg e2, if_neg (by omega)]; grind
theorem mI_set {y : Nat} (hj : j < x.length) : mI xss ws (x.set j y) i = mI xss ws x i - rI xss j i * (sv y - sv (x.getD j 0)) := by
  unfold mI rI
  rw [List.length_set, dI_set _ (Nat.le_refl _), if_pos hj]
  grind
theorem cI_set {y : Nat} (hj : j < x.length) : ∀ k, cI xss ws gs (x.set j y) k = cI xss ws gs x k - 2 * (sv y - sv (x.getD j 0)) * (tI xss ws gs x j k - sI xss gs j k * sv (x.getD j 0)) + (sv y - sv (x.getD j 0)) * (sv y - sv (x.getD j 0)) * sI xss gs j k
  | 0 => by simp [cI, tI, sI]
  | k + 1 => by
    rw [cI, cI, tI, sI, cI_set hj k, mI_set hj]
    grind
end
theorem sq_id {S T X Y d c : Int} (h : d = c - 2 * (Y - X) * (T - S * X) + (Y - X) * (Y - X) * S) : S * (d - c) = (S * Y - T) * (S * Y - T) - (S * X - T) * (S * X - T) := by
  subst h; grind
theorem sq_le {a e : Int} (h1 : -e ≤ a) (h2 : a ≤ e) : a * a ≤ e * e := (mul_bd ⟨h1, h2⟩ ⟨h1, h2⟩).2
/-- A step towards the least, within limits. -/
theorem step_le {S T X Y L e d c : Int} (hS : 0 < S) (he : 0 ≤ e) (h1 : -L ≤ X) (h2 : X ≤ L) (h : d = c - 2 * (Y - X) * (T - S * X) + (Y - X) * (Y - X) * S)
    (hY : (S * Y - T ≤ e ∧ T - S * Y ≤ e) ∨ (Y = L ∧ S * L - T ≤ e) ∨ (Y = -L ∧ T - S * (-L) ≤ e)) : d ≤ c + e * e := by
  have key : (S * Y - T) * (S * Y - T) ≤ (S * X - T) * (S * X - T) + e * e := by
    have n1 : 0 ≤ (S * X - T) * (S * X - T) := by
      rcases Int.le_total 0 (S * X - T) with h | h
      · exact Int.mul_nonneg h h
      · exact Int.mul_nonneg_of_nonpos_of_nonpos h h
    have n2 : 0 ≤ e * e := Int.mul_nonneg he he
    have near : ∀ v : Int, -e ≤ v → v ≤ e → v * v ≤ (S * X - T) * (S * X - T) + e * e := fun v p1 p2 => by have := sq_le p1 p2; omega
    have m1 : S * X ≤ S * L := Int.mul_le_mul_of_nonneg_left h2 (Int.le_of_lt hS)
    have m2 : S * (-L) ≤ S * X := Int.mul_le_mul_of_nonneg_left h1 (Int.le_of_lt hS)
    rcases hY with ⟨p1, p2⟩ | ⟨rfl, p1⟩ | ⟨rfl, p1⟩
    · exact near _ (by omega) p1
    · by_cases hT : S * Y ≤ T
      · have := sq_le (a := S * Y - T) (e := T - S * X) (by omega) (by omega)
        have e9 : (T - S * X) * (T - S * X) = (S * X - T) * (S * X - T) := by grind
        omega
      · exact near _ (by omega) p1
    · by_cases hT : T ≤ S * (-L)
      · have := sq_le (a := S * (-L) - T) (e := S * X - T) (by omega) (by omega)
        omega
      · exact near _ (by omega) (by omega)
  have hid := sq_id h
  rcases (by omega : c < d ∨ d ≤ c) with hlt | hge
  · have : 1 * (d - c) ≤ S * (d - c) := Int.mul_le_mul_of_nonneg_right (by omega) (by omega)
    omega
  · have := Int.mul_nonneg he he
    omega
end Go.Proofs.Ytalimcjmaoapkaa


namespace Go.Proofs.Ytalimcjmaoapkaa
open Go.RowKit

section
variable {x y : Nat} {X Y : Int}
theorem apx_cmp (hx : apx x X) (hy : apx y Y) : FloatKind.f32.format.order x y = some (compare X Y) := by
  rw [order_number hx.2.1 hy.2.1, hx.2.2, hy.2.2]
theorem apx_gtr (hx : apx x X) (hy : apx y Y) : fcmp .gtr .f32 x y = decide (Y < X) := by
  show (FloatKind.f32.format.order x y == some .gt) = _
  rw [apx_cmp hx hy]
  rcases Int.lt_trichotomy X Y with h | h | h
  · rw [Int.compare_eq_lt.2 h, decide_eq_false (by omega)]; rfl
  · rw [compare_eq.2 h, decide_eq_false (by omega)]; rfl
  · rw [Int.compare_eq_gt.2 h, decide_eq_true h]; rfl
theorem apx_lss (hx : apx x X) (hy : apx y Y) : fcmp .lss .f32 x y = decide (X < Y) := by
  show (FloatKind.f32.format.order x y == some .lt) = _
  rw [apx_cmp hx hy]
  rcases Int.lt_trichotomy X Y with h | h | h
  · rw [Int.compare_eq_lt.2 h, decide_eq_true h]; rfl
  · rw [compare_eq.2 h, decide_eq_false (by omega)]; rfl
  · rw [Int.compare_eq_gt.2 h, decide_eq_false (by omega)]; rfl
end
theorem dy_16 {x : Nat} {v : Int} (h : dy .f32 x (16 * v)) : apx x (v * (2097152 * UU)) := by
  have h2 := apx_dy h
  have e9 : (16 : Int) * 2 ^ dyU .f32 = 2097152 * UU := by
    have := (UU_big (k := 21) (K := 2097152) (by decide)).2
    rw [this]; decide
  rw [← e9]
  have e8 : v * (16 * 2 ^ dyU .f32) = 16 * v * 2 ^ dyU .f32 := by grind
  rw [e8]; exact h2
/-- The limit. -/
def L15 : Nat := 1069547520
theorem l15_dyb : (dyb L15 192 && dyb (fneg .f32 L15) (-192)) = true := by decide +kernel
theorem l15 : apx L15 (25165824 * UU) ∧ apx (fneg .f32 L15) (-(25165824 * UU)) := by
  have h := l15_dyb
  rw [Bool.and_eq_true] at h
  have h1 := dy_16 (v := 12) (dyb_is h.1)
  have h2 := dy_16 (v := -12) (dyb_is h.2)
  have e1 : 12 * (2097152 * UU) = 25165824 * UU := by omega
  have e2 : -12 * (2097152 * UU) = -(25165824 * UU) := by omega
  rw [e1] at h1
  rw [e2] at h2
  exact ⟨h1, h2⟩
theorem limY_is {y : Nat} {Z : Int} (h : apx y Z) : (25165824 * UU < Z ∧ limY y L15 = L15) ∨ (Z < -(25165824 * UU) ∧ limY y L15 = fneg .f32 L15) ∨ (-(25165824 * UU) ≤ Z ∧ Z ≤ 25165824 * UU ∧ limY y L15 = y) := by
  have hU := UU_pos
  obtain ⟨a, b⟩ := l15
  have c1 := apx_gtr h a
  have c2 := apx_lss a b
  have c3 := apx_lss h b
  rw [decide_eq_false (by omega)] at c2
  by_cases h1 : 25165824 * UU < Z
  · rw [decide_eq_true h1] at c1
    exact .inl ⟨h1, limY_2 c1 c2⟩
  · rw [decide_eq_false h1] at c1
    by_cases h2 : Z < -(25165824 * UU)
    · rw [decide_eq_true h2] at c3
      exact .inr (.inl ⟨h2, limY_3 c1 c3⟩)
    · rw [decide_eq_false h2] at c3
      exact .inr (.inr ⟨by omega, by omega, limY_4 c1 c3⟩)
section
variable {xs x ws gs : List Nat} {xss : List (List Nat)} {n i j : Nat}
/-- What the quotient is, within limits. -/
theorem quo_step {t s : Nat} {T T' S : Int} (ht : apx t T') (hs : apx s (S * (2097152 * UU))) (hS : 1 ≤ S) (hS2 : S ≤ 640) (h1 : T - 128000 * UU ≤ 8 * T') (h2 : 8 * T' ≤ T + 128000 * UU) (h3 : -(700 * BB) ≤ T') (h4 : T' ≤ 700 * BB) :
    ∃ Y, apx (limY (fop .quo .f32 t s) L15) Y ∧ -(25165824 * UU) ≤ Y ∧ Y ≤ 25165824 * UU ∧
      ((S * Y - T ≤ 133120 * UU ∧ T - S * Y ≤ 133120 * UU) ∨ (Y = 25165824 * UU ∧ S * (25165824 * UU) - T ≤ 133120 * UU) ∨ (Y = -(25165824 * UU) ∧ T - S * (-(25165824 * UU)) ≤ 133120 * UU)) := by
  have hU := UU_pos
  have hBu := BB_u
  have hp : 0 < 2097152 * UU := by omega
  have hv1 : 1 * UU ≤ S * UU := Int.mul_le_mul_of_nonneg_right hS (Int.le_of_lt hU)
  have hv2 : S * UU ≤ 640 * UU := Int.mul_le_mul_of_nonneg_right hS2 (Int.le_of_lt hU)
  have eY : S * (2097152 * UU) = 2097152 * (S * UU) := by grind
  have eL : S * (25165824 * UU) = 25165824 * (S * UU) := by grind
  have eL2 : S * (-(25165824 * UU)) = -(25165824 * (S * UU)) := by grind
  have hY0 : 0 < S * (2097152 * UU) := by omega
  have red : ∀ Z K : Int, T' * (16777216 * UU) - 2 * (K * UU) * (S * (2097152 * UU)) ≤ Z * (S * (2097152 * UU)) → Z * (S * (2097152 * UU)) ≤ T' * (16777216 * UU) + 2 * (K * UU) * (S * (2097152 * UU)) → 8 * T' - 2 * K * (S * UU) ≤ S * Z ∧ S * Z ≤ 8 * T' + 2 * K * (S * UU) := by
    intro Z K g1 g2
    have f1 : Z * (S * (2097152 * UU)) = S * Z * (2097152 * UU) := by grind
    have f2 : T' * (16777216 * UU) - 2 * (K * UU) * (S * (2097152 * UU)) = (8 * T' - 2 * K * (S * UU)) * (2097152 * UU) := by grind
    have f3 : T' * (16777216 * UU) + 2 * (K * UU) * (S * (2097152 * UU)) = (8 * T' + 2 * K * (S * UU)) * (2097152 * UU) := by grind
    rw [f1, f2] at g1
    rw [f1, f3] at g2
    exact ⟨Int.le_of_mul_le_mul_right g1 hp, Int.le_of_mul_le_mul_right g2 hp⟩
  obtain ⟨a, b⟩ := l15
  by_cases c1 : 2 * T' ≤ 4 * (S * (2097152 * UU))
  · by_cases c2 : -(4 * (S * (2097152 * UU))) ≤ 2 * T'
    · obtain ⟨Z, z1, z2, z3⟩ := er_quo 2 (K := 4) rfl (by decide) ht hs hY0 c2 c1
      obtain ⟨z4, z5⟩ := red Z 4 z2 z3
      rcases limY_is z1 with ⟨g1, g2⟩ | ⟨g1, g2⟩ | ⟨g1, g2, g3⟩
      · rw [g2]
        have : S * (25165824 * UU) ≤ S * Z := Int.mul_le_mul_of_nonneg_left (by omega) (by omega)
        exact ⟨_, a, by omega, by omega, .inr (.inl ⟨rfl, by omega⟩)⟩
      · rw [g2]
        have : S * Z ≤ S * (-(25165824 * UU)) := Int.mul_le_mul_of_nonneg_left (by omega) (by omega)
        exact ⟨_, b, by omega, by omega, .inr (.inr ⟨rfl, by omega⟩)⟩
      · rw [g3]
        exact ⟨Z, z1, g1, g2, .inl ⟨by omega, by omega⟩⟩
    · obtain ⟨Z, z1, z2, z3⟩ := er_quo 14 (K := 16384) rfl (by decide) ht hs hY0 (by omega) (by omega)
      obtain ⟨z4, z5⟩ := red Z 16384 z2 z3
      have hz : Z < -(25165824 * UU) := by
        refine Int.lt_of_mul_lt_mul_left (a := S) ?_ (by omega)
        omega
      rcases limY_is z1 with ⟨g1, g2⟩ | ⟨g1, g2⟩ | ⟨g1, g2, g3⟩
      · omega
      · rw [g2]
        exact ⟨_, b, by omega, by omega, .inr (.inr ⟨rfl, by omega⟩)⟩
      · omega
  · obtain ⟨Z, z1, z2, z3⟩ := er_quo 14 (K := 16384) rfl (by decide) ht hs hY0 (by omega) (by omega)
    obtain ⟨z4, z5⟩ := red Z 16384 z2 z3
    have hz : 25165824 * UU < Z := by
      refine Int.lt_of_mul_lt_mul_left (a := S) ?_ (by omega)
      omega
    rcases limY_is z1 with ⟨g1, g2⟩ | ⟨g1, g2⟩ | ⟨g1, g2, g3⟩
    · rw [g2]
      exact ⟨_, a, by omega, by omega, .inr (.inl ⟨rfl, by omega⟩)⟩
    · omega
    · omega
/-- What a step may add. -/
def EE : Int := 133120 * UU * (133120 * UU)
theorem EE_nonneg : 0 ≤ EE := by have := UU_pos; unfold EE; exact Int.mul_nonneg (by omega) (by omega)
theorem limN_ok (h : DDok xss ws gs n) (hx : InR x) (hl : x.length = n) (hj : j < n) : InR (limN xss ws gs L15 x j) ∧ cI xss ws gs (limN xss ws gs L15 x j) xss.length ≤ cI xss ws gs x xss.length + EE := by
  have hU := UU_pos
  have hm := h.m2
  obtain ⟨a1, a2, a3⟩ := limS_dy h hj xss.length (Nat.le_refl _)
  obtain ⟨T', b1, b2, b3, b4, b5⟩ := limT_err h hx hl hj xss.length (Nat.le_refl _)
  have c1 := apx_gtr (dy_16 a1) apx_zero
  cases hg : fcmp .gtr .f32 (limS xss gs j xss.length) 0 with
  | false => rw [limN_no hg]; exact ⟨hx, by have := EE_nonneg; omega⟩
  | true =>
    rw [hg] at c1
    have hS0 := of_decide_eq_true c1.symm
    have hS : 1 ≤ sI xss gs j xss.length := by
      rcases Int.lt_or_le 0 (sI xss gs j xss.length) with h1 | h1
      · omega
      · have h2 : sI xss gs j xss.length = 0 := by omega
        rw [h2, Int.zero_mul] at hS0
        omega
    have hB := BB_pos
    have k1 : 12800 * ((xss.length : Nat) : Int) * UU ≤ 128000 * UU := Int.mul_le_mul_of_nonneg_right (by omega) (by omega)
    have k2 : 70 * ((xss.length : Nat) : Int) * BB ≤ 700 * BB := Int.mul_le_mul_of_nonneg_right (by omega) (by omega)
    obtain ⟨Y, y1, y2, y3, y4⟩ := quo_step (T := tI xss ws gs x j xss.length) b1 (dy_16 a1) hS (by omega) (by omega) (by omega) (by omega) (by omega)
    rw [limN_yes hg]
    refine ⟨?_, ?_⟩
    · intro z hz
      rcases List.mem_or_eq_of_mem_set hz with h1 | h1
      · exact hx z h1
      · rw [h1]; exact ⟨Y, y1, y2, y3⟩
    · obtain ⟨x1, x2, x3⟩ := hx.at (show j < x.length by omega)
      have hc := cI_set (xss := xss) (ws := ws) (gs := gs) (y := limY (fop .quo .f32 (limT xss ws gs x j xss.length) (limS xss gs j xss.length)) L15) (show j < x.length by omega) xss.length
      rw [y1.sv] at hc
      exact step_le (L := 25165824 * UU) (e := 133120 * UU) (by omega) (by omega) x2 x3 hc y4
theorem limJ_ok (h : DDok xss ws gs n) (hx : InR x) (hl : x.length = n) : ∀ j, j ≤ n → InR (limJ xss ws gs L15 x j) ∧ cI xss ws gs (limJ xss ws gs L15 x j) xss.length ≤ cI xss ws gs x xss.length + j * EE
  | 0, _ => ⟨hx, by simp [limJ]⟩
  | j + 1, hj => by
    obtain ⟨a1, a2⟩ := limJ_ok h hx hl j (by omega)
    obtain ⟨b1, b2⟩ := limN_ok h a1 (by rw [limJ_length]; exact hl) (show j < n by omega)
    have e : ((j + 1 : Nat) : Int) * EE = j * EE + EE := by push_cast; grind
    exact ⟨b1, by rw [limJ, e]; omega⟩
theorem limR_ok (h : DDok xss ws gs n) (hx : InR x) (hl : x.length = n) : ∀ k : Nat, InR (limR xss ws gs L15 x k) ∧ cI xss ws gs (limR xss ws gs L15 x k) xss.length ≤ cI xss ws gs x xss.length + k * (3 * EE)
  | 0 => ⟨hx, by simp [limR]⟩
  | k + 1 => by
    have hn := h.n2
    have hE := EE_nonneg
    obtain ⟨a1, a2⟩ := limR_ok h hx hl k
    obtain ⟨b1, b2⟩ := limJ_ok h a1 (by rw [limR_length]; exact hl) n (Nat.le_refl _)
    have e : ((k + 1 : Nat) : Int) * (3 * EE) = k * (3 * EE) + 3 * EE := by push_cast; grind
    have e2 : ((n : Nat) : Int) * EE ≤ 3 * EE := Int.mul_le_mul_of_nonneg_right (by omega) hE
    rw [limR, hl]
    exact ⟨b1, by rw [e]; omega⟩
/-! ### without currents -/
theorem zeros_in : InR (List.replicate n 0) := fun y hy => by
  have hU := UU_pos
  rw [(List.mem_replicate.1 hy).2]
  exact ⟨0, apx_zero, by omega, by omega⟩
theorem zeros_at {k : Nat} : (List.replicate n 0).getD k 0 = 0 := by
  simp only [List.getD, List.getElem?_replicate]
  split <;> rfl
theorem zeros_dI : ∀ k, dI xs (List.replicate n 0) k = 0
  | 0 => rfl
  | k + 1 => by rw [dI, zeros_dI k, zeros_at, apx_zero.sv]; simp
theorem zeros_dot (h : ∀ y ∈ xs, H9 y) : ∀ k, k ≤ xs.length → dy .f32 (dotK xs (List.replicate n 0) k) 0
  | 0, _ => dy_z
  | k + 1, hk => by
    obtain ⟨v, v1, v2, _⟩ := hH (getD_H h (show k < xs.length by omega) 0)
    rw [dotK, zeros_at]
    have := dy_add (zeros_dot h k (by omega)) (dy_mul (c := 0) v2 dy_z (by simp) (by decide)) (by decide)
    simpa using this
def zI (ws gs : List Nat) : Nat → Int
  | 0 => 0
  | k + 1 => zI ws gs k + hvI (gs.getD k 0) * hvI (ws.getD k 0) * hvI (ws.getD k 0)
theorem zeros_sq (h : DDok xss ws gs n) : ∀ k, k ≤ xss.length → dy .f32 (sqK xss ws gs (List.replicate n 0) k) (16 * zI ws gs k) ∧ cI xss ws gs (List.replicate n 0) k = zI ws gs k * (BB * BB) ∧ 0 ≤ zI ws gs k ∧ zI ws gs k ≤ 256 * k
  | 0, _ => ⟨dy_z, by simp [cI, zI], Int.le_refl _, Int.le_refl _⟩
  | k + 1, hk => by
    have hm := h.m2
    obtain ⟨a1, a2, a3, a4⟩ := zeros_sq h k (by omega)
    obtain ⟨r1, r2⟩ := getD_H h.rows (show k < xss.length by omega) []
    obtain ⟨v, v1, v2, _⟩ := hW (getD_H h.hw (show k < ws.length by rw [h.wl]; omega) 0)
    obtain ⟨g1, _, g2, g3⟩ := g_dy h (show k < xss.length by omega)
    have ev := (dy_half v2).1
    have d0 := zeros_dot (n := n) r2 n (by omega)
    have dm : dy .f32 (missAt xss ws (List.replicate n 0) k) (64 * v) := by
      unfold missAt
      rw [List.length_replicate]
      have := dy_sub v2 d0 (by omega)
      simpa using this
    obtain ⟨c1, c2⟩ := mul_bd (a := hvI (gs.getD k 0)) (b := v) (m := 4) (n := 8) ⟨by omega, g3⟩ ⟨by omega, by omega⟩
    obtain ⟨c3, c4⟩ := mul_bd (a := hvI (gs.getD k 0) * v) (b := v) (m := 32) (n := 8) ⟨by omega, by omega⟩ ⟨by omega, by omega⟩
    have p1 := dy_mul (c := 32 * (hvI (gs.getD k 0) * v)) g1 dm (by grind) (by omega)
    have p2 := dy_mul (c := 16 * (hvI (gs.getD k 0) * v * v)) p1 dm (by grind) (by omega)
    have h0 : 0 ≤ hvI (gs.getD k 0) * v * v := by
      rw [Int.mul_assoc]
      refine Int.mul_nonneg g2 ?_
      rcases Int.le_total 0 v with h | h
      · exact Int.mul_nonneg h h
      · exact Int.mul_nonneg_of_nonpos_of_nonpos h h
    have em : mI xss ws (List.replicate n 0) k = v * BB := by
      unfold mI
      rw [zeros_dI, ev]; omega
    rw [sqK_s, cI, zI, em, a2, ev]
    refine ⟨?_, by grind, by omega, by omega⟩
    have := dy_add a1 p2 (by omega)
    rw [← Int.mul_add] at this
    exact this
/-- One hundredth. -/
def c100 : Nat := 1008981770
theorem c100_is : ∃ C, apx c100 C ∧ 167772 * UU ≤ C ∧ C ≤ BB := by
  refine ⟨sval FloatKind.f32.format c100, ⟨by decide, by decide, rfl⟩, ?_, ?_⟩
  · have := (UU_big (k := 0) (K := 1) (by decide)).2
    rw [Int.one_mul] at this
    rw [this]; decide +kernel
  · rw [BB_u, BB_is]; decide +kernel
/-- What is left is not more than what there was, and a hundredth. -/
theorem left_le (h : DDok xss ws gs n) {r : Nat} (hr : r ≤ 5) :
    fcmp .gtr .f32 (sqK xss ws gs (limR xss ws gs L15 (List.replicate n 0) r) xss.length) (fop .add .f32 (sqK xss ws gs (List.replicate n 0) xss.length) c100) = false := by
  have hU := UU_pos
  have hB := BB_pos
  have hBu := BB_u
  have hm := h.m2
  have hE := EE_nonneg
  obtain ⟨a1, a2⟩ := limR_ok h (zeros_in (n := n)) (List.length_replicate) r
  obtain ⟨b1, b2, b3, b4⟩ := zeros_sq h xss.length (Nat.le_refl _)
  obtain ⟨Q, q1, q2, q3, q4, q5⟩ := sq_err h a1 (by rw [limR_length]; exact List.length_replicate) xss.length (Nat.le_refl _)
  obtain ⟨C, c1, c2, c3⟩ := c100_is
  have hz := dy_16 b1
  have eZ : zI ws gs xss.length * (2097152 * UU) = 2097152 * (zI ws gs xss.length * UU) := by grind
  have k1 : 0 ≤ zI ws gs xss.length * UU := Int.mul_nonneg b3 (Int.le_of_lt hU)
  have k2 : zI ws gs xss.length * UU ≤ 2560 * UU := Int.mul_le_mul_of_nonneg_right (by omega) (Int.le_of_lt hU)
  obtain ⟨Z, z1, z2, z3⟩ := er_add 9 (K := 512) rfl (by decide) hz c1 (by omega) (by omega)
  rw [apx_gtr q1 z1]
  refine decide_eq_false ?_
  rw [Int.not_lt]
  refine Int.le_of_mul_le_mul_right (a := BB) ?_ hB
  have hUB : 0 < UU * BB := Int.mul_pos hU hB
  have y1 : (zI ws gs xss.length * (2097152 * UU) + 167260 * UU) * BB ≤ Z * BB := Int.mul_le_mul_of_nonneg_right (by omega) (Int.le_of_lt hB)
  have e1 : (zI ws gs xss.length * (2097152 * UU) + 167260 * UU) * BB = zI ws gs xss.length * (2097152 * UU) * BB + 167260 * (UU * BB) := by grind
  have e2 : zI ws gs xss.length * (BB * BB) = 8 * (zI ws gs xss.length * (2097152 * UU) * BB) := by
    have : BB * BB = 8 * (2097152 * UU * BB) := by rw [BB_u]; grind
    rw [this]; grind
  have k3 : 72768 * ((xss.length : Nat) : Int) * (UU * BB) ≤ 727680 * (UU * BB) := Int.mul_le_mul_of_nonneg_right (by omega) (Int.le_of_lt hUB)
  have k4 : ((r : Nat) : Int) * (3 * EE) ≤ 15 * EE := by
    have : ((r : Nat) : Int) * (3 * EE) ≤ 5 * (3 * EE) := Int.mul_le_mul_of_nonneg_right (by omega) (by omega)
    omega
  have e3 : 16777216 * EE = 17720934400 * (UU * BB) := by unfold EE; rw [BB_u]; grind
  omega
end
end Go.Proofs.Ytalimcjmaoapkaa


namespace Go.Proofs.Ytalimcjmaoapkaa
open Go.RowKit

def hf5 : Nat := 1056964608
/-- Halves from -5 to 5. -/
def hw2 (k : Nat) : Nat := fop .quo .f32 (FloatKind.f32.nearest ((k : Int) - 10)) 1073741824
def gapW (a b : Nat) : Nat := if fcmp .lss .f64 a b then fop .sub .f64 b a else fop .sub .f64 a b
/-! ### tables -/
theorem ru1 : ∀ k : Fin 17, ((List.range 9).any fun m => stepOf hf5 (qw k) == hw2 (m + 6)) = true := by decide +kernel
theorem ru2 : ∀ k : Fin 20, (fop .add .f32 (hw2 k) hf5 == hw2 (k + 1) && fop .sub .f32 (hw2 (k + 1)) hf5 == hw2 k) = true := by decide +kernel
theorem ru3 : ∀ k : Fin 21, (dyb (hw2 k) (64 * ((k.val : Int) - 10)) && floatToIntVal .f32 (fop .mul .f32 1073741824 (hw2 k)) .i64 == some ((k.val : Int) - 10) && !fcmp .neq .f32 (fop .mul .f32 1073741824 (hw2 k)) (FloatKind.f32.nearest ((k.val : Int) - 10))) = true := by decide +kernel
theorem ru4 : ∀ k : Fin 17, (!fcmp .gtr .f64 (gapW (up (stepOf hf5 (qw k))) (up (qw k))) 4598175219545276416) = true := by decide +kernel
theorem ru5 : (above hf5 && above 1061158912 && least L15) = true := by decide +kernel
theorem ru6 : (fneg .f32 1061158912 == 3208642560 && fneg .f32 3208642560 == 1061158912 && fneg .f32 L15 == 3217031168) = true := by decide +kernel
theorem hw2_dy {k : Nat} (hk : k ≤ 20) : dy .f32 (hw2 k) (64 * ((k : Int) - 10)) := by
  have := ru3 ⟨k, by omega⟩
  simp only [Bool.and_eq_true] at this
  exact dyb_is this.1.1
theorem hw2_int {k : Nat} (hk : k ≤ 20) : floatToIntVal .f32 (fop .mul .f32 1073741824 (hw2 k)) .i64 = some ((k : Int) - 10) ∧ fcmp .neq .f32 (fop .mul .f32 1073741824 (hw2 k)) (FloatKind.f32.nearest ((k : Int) - 10)) = false := by
  have := ru3 ⟨k, by omega⟩
  simp only [Bool.and_eq_true, beq_iff_eq, Bool.not_eq_true'] at this
  exact ⟨this.1.2, this.2⟩
theorem hw2_up {k : Nat} (hk : k < 20) : fop .add .f32 (hw2 k) hf5 = hw2 (k + 1) := by
  have := ru2 ⟨k, hk⟩
  simp only [Bool.and_eq_true, beq_iff_eq] at this
  exact this.1
theorem hw2_down {k : Nat} (hk : k < 20) : fop .sub .f32 (hw2 (k + 1)) hf5 = hw2 k := by
  have := ru2 ⟨k, hk⟩
  simp only [Bool.and_eq_true, beq_iff_eq] at this
  exact this.2
/-! ### sums of squares are exact -/
/-- Halves, with how far they may be from zero. -/
def InH (r : Nat → Nat) (x : List Nat) : Prop := ∀ i, i < x.length → ∃ k, 6 ≤ k + r i ∧ k ≤ 14 + r i ∧ x.getD i 0 = hw2 k
section
variable {xs x ws gs : List Nat} {xss : List (List Nat)} {n i j : Nat} {r : Nat → Nat}
theorem dot_half (h1 : ∀ y ∈ xs, H9 y) (hr : ∀ i, r i ≤ 6) (h2 : InH r x) : ∀ k, k ≤ xs.length → k ≤ x.length → k ≤ 3 → ∃ D : Int, D.natAbs ≤ 40 * k ∧ dy .f32 (dotK xs x k) (32 * D)
  | 0, _, _, _ => ⟨0, by decide, dy_z⟩
  | k + 1, ha, hb, hc => by
    obtain ⟨D, d1, d2⟩ := dot_half h1 hr h2 k (by omega) (by omega) (by omega)
    obtain ⟨u, p1, p2, _⟩ := hH (getD_H h1 (show k < xs.length by omega) 0)
    obtain ⟨v, v1, v2, v3⟩ := h2 k (by omega)
    have hrk := hr k
    have hv := hw2_dy (k := v) (by omega)
    rw [← v3] at hv
    have hb2 := natAbs_mul_le (b := (v : Int) - 10) (n := 10) p1 (by omega)
    have hm := dy_mul (c := 32 * (u * ((v : Int) - 10))) p2 hv (by grind) (by omega)
    have ha2 := dy_add d2 hm (by omega)
    exact ⟨D + u * ((v : Int) - 10), by omega, by rw [dotK, Int.mul_add]; exact ha2⟩
theorem term_half (h : DDok xss ws gs n) (hr : ∀ i, r i ≤ 6) (hx : InH r x) (hl : x.length = n) (hi : i < xss.length) : ∃ T : Nat, T ≤ 295936 ∧ dy .f32 (tm xss ws gs x i) (T : Int) := by
  obtain ⟨r1, r2⟩ := getD_H h.rows hi []
  obtain ⟨D, d1, d2⟩ := dot_half r2 hr hx x.length (by omega) (by omega) (by have := h.n2; omega)
  obtain ⟨v, v1, v2, _⟩ := hW (getD_H h.hw (show i < ws.length by rw [h.wl]; exact hi) 0)
  have hn := h.n2
  have d3 := dy_sub v2 d2 (by omega)
  obtain ⟨t, t1, t2⟩ : ∃ t : Int, t.natAbs ≤ 136 ∧ dy .f32 (missAt xss ws x i) (32 * t) := ⟨2 * v - D, by omega, by unfold missAt; rw [show 32 * (2 * v - D) = 64 * v - 32 * D by omega]; exact d3⟩
  obtain ⟨g, g1, g2, _⟩ := hG (getD_H h.hg (show i < gs.length by rw [h.gl]; exact hi) 0)
  have b1 := natAbs_mul_le (a := (g : Int)) (b := t) (m := 4) (n := 136) (by omega) t1
  have b2 := natAbs_mul_le b1 t1
  have hm := dy_mul (c := 16 * ((g : Int) * t)) g2 t2 (by grind) (by omega)
  have hm2 := dy_mul (c := 4 * ((g : Int) * t * t)) hm t2 (by grind) (by omega)
  have h0 : 0 ≤ (g : Int) * t * t := by rw [Int.mul_assoc]; exact Int.mul_nonneg (by omega) (by rcases Int.le_total 0 t with h | h; exact Int.mul_nonneg h h; exact Int.mul_nonneg_of_nonpos_of_nonpos h h)
  refine ⟨4 * ((g : Int) * t * t).natAbs, by omega, ?_⟩
  have e : ((4 * ((g : Int) * t * t).natAbs : Nat) : Int) = 4 * ((g : Int) * t * t) := by omega
  rw [e]
  exact hm2
theorem sq_half (h : DDok xss ws gs n) (hr : ∀ i, r i ≤ 6) (hx : InH r x) (hl : x.length = n) : ∀ k, k ≤ xss.length → ∃ T : Nat, T ≤ 295936 * k ∧ dy .f32 (sqK xss ws gs x k) (T : Int)
  | 0, _ => ⟨0, Nat.zero_le _, dy_z⟩
  | k + 1, hk => by
    have hm := h.m2
    obtain ⟨S, s1, s2⟩ := sq_half h hr hx hl k (by omega)
    obtain ⟨T, t1, t2⟩ := term_half h hr hx hl (show k < xss.length by omega)
    refine ⟨S + T, by omega, ?_⟩
    rw [sqK_s, Int.natCast_add]
    exact dy_add s2 t2 (by omega)
/-- The sum of the squares as a number. -/
def sqV (xss : List (List Nat)) (ws gs x : List Nat) : Int := sv (sqK xss ws gs x xss.length)
theorem sqV_is (h : DDok xss ws gs n) (hr : ∀ i, r i ≤ 6) (hx : InH r x) (hl : x.length = n) : apx (sqK xss ws gs x xss.length) (sqV xss ws gs x) := by
  obtain ⟨T, _, t2⟩ := sq_half h hr hx hl xss.length (Nat.le_refl _)
  have := apx_dy t2
  unfold sqV
  rw [this.sv]; exact this
/-! ### steps that improve -/
def SQ (xss : List (List Nat)) (ws gs : List Nat) : List Nat → Nat := fun y => sqK xss ws gs y xss.length
/-- What has happened between two states. -/
def Rel (xss : List (List Nat)) (ws gs : List Nat) (s t : List Nat × Nat) : Prop := (t.2 = s.2 ∧ t.1 = s.1) ∨ (s.2 < t.2 ∧ sqV xss ws gs t.1 < sqV xss ws gs s.1)
theorem Rel.trans {s t u : List Nat × Nat} (h1 : Rel xss ws gs s t) (h2 : Rel xss ws gs t u) : Rel xss ws gs s u := by
  rcases h1 with ⟨a, b⟩ | ⟨a, b⟩
  · rcases h2 with ⟨c, d⟩ | ⟨c, d⟩
    · exact .inl ⟨c.trans a, d.trans b⟩
    · exact .inr ⟨by omega, by rw [← b]; exact d⟩
  · rcases h2 with ⟨c, d⟩ | ⟨c, d⟩
    · exact .inr ⟨by omega, by rw [d]; exact b⟩
    · exact .inr ⟨by omega, by omega⟩
def rj (b j : Nat) : Nat → Nat := fun i => if i < j then b + 1 else b
theorem InH_set {b : Nat} {x : List Nat} {v : Nat} (hx : InH (rj b j) x) (hv : ∃ k, 6 ≤ k + (b + 1) ∧ k ≤ 14 + (b + 1) ∧ v = hw2 k) : InH (rj b (j + 1)) (x.set j v) := by
  intro i hi
  rw [List.length_set] at hi
  rw [getD_setN hi]
  by_cases e : j = i
  · rw [if_pos e]
    obtain ⟨k, k1, k2, k3⟩ := hv
    refine ⟨k, ?_, ?_, k3⟩ <;> (unfold rj; rw [if_pos (by omega)]; omega)
  · rw [if_neg e]
    obtain ⟨k, k1, k2, k3⟩ := hx i hi
    refine ⟨k, ?_, ?_, k3⟩
    · unfold rj at k1 ⊢; split at k1 <;> split <;> omega
    · unfold rj at k2 ⊢; split at k2 <;> split <;> omega
theorem InH_keep {b : Nat} {x : List Nat} (hx : InH (rj b j) x) : InH (rj b (j + 1)) x := by
  intro i hi
  obtain ⟨k, k1, k2, k3⟩ := hx i hi
  refine ⟨k, ?_, ?_, k3⟩
  · unfold rj at k1 ⊢; split at k1 <;> split <;> omega
  · unfold rj at k2 ⊢; split at k2 <;> split <;> omega
theorem rj_le {b : Nat} (hb : b ≤ 5) (i : Nat) : rj b j i ≤ 6 := by unfold rj; split <;> omega
theorem impN_ok (h : DDok xss ws gs n) {b : Nat} (hb : b ≤ 4) {s : List Nat × Nat} (hx : InH (rj b j) s.1) (hl : s.1.length = n) (hj : j < n) :
    InH (rj b (j + 1)) (impN (SQ xss ws gs) hf5 s j).1 ∧ Rel xss ws gs s (impN (SQ xss ws gs) hf5 s j) := by
  obtain ⟨k, k1, k2, k3⟩ := hx j (by omega)
  have e : rj b j j = b := by unfold rj; rw [if_neg (by omega)]
  rw [e] at k1 k2
  have up : InH (rj b (j + 1)) (s.1.set j (fop .add .f32 (s.1.getD j 0) hf5)) := InH_set hx ⟨k + 1, by omega, by omega, by rw [k3, hw2_up (by omega)]⟩
  have dn : InH (rj b (j + 1)) (s.1.set j (fop .sub .f32 (s.1.getD j 0) hf5)) := by
    obtain ⟨m, rfl⟩ : ∃ m, k = m + 1 := ⟨k - 1, by omega⟩
    exact InH_set hx ⟨m, by omega, by omega, by rw [k3, hw2_down (by omega)]⟩
  have a0 := sqV_is h (rj_le (by omega)) hx hl
  have a1 := sqV_is h (rj_le (by omega)) up (by rw [List.length_set]; exact hl)
  have a2 := sqV_is h (rj_le (by omega)) dn (by rw [List.length_set]; exact hl)
  have c1 := apx_lss a1 a0
  have c2 := apx_lss a2 a0
  cases h1 : fcmp .lss .f32 (SQ xss ws gs (s.1.set j (fop .add .f32 (s.1.getD j 0) hf5))) (SQ xss ws gs s.1) with
  | true =>
    rw [impN_up h1]
    rw [show fcmp .lss .f32 (sqK xss ws gs (s.1.set j (fop .add .f32 (s.1.getD j 0) hf5)) xss.length) (sqK xss ws gs s.1 xss.length) = true from h1] at c1
    exact ⟨up, .inr ⟨Nat.lt_succ_self _, of_decide_eq_true c1.symm⟩⟩
  | false =>
    cases h2 : fcmp .lss .f32 (SQ xss ws gs (s.1.set j (fop .sub .f32 (s.1.getD j 0) hf5))) (SQ xss ws gs s.1) with
    | true =>
      rw [impN_down h1 h2]
      rw [show fcmp .lss .f32 (sqK xss ws gs (s.1.set j (fop .sub .f32 (s.1.getD j 0) hf5)) xss.length) (sqK xss ws gs s.1 xss.length) = true from h2] at c2
      exact ⟨dn, .inr ⟨Nat.lt_succ_self _, of_decide_eq_true c2.symm⟩⟩
    | false =>
      rw [impN_no h1 h2]
      exact ⟨InH_keep hx, .inl ⟨rfl, rfl⟩⟩
theorem impJ_ok (h : DDok xss ws gs n) {b : Nat} (hb : b ≤ 4) {s : List Nat × Nat} (hx : InH (rj b 0) s.1) (hl : s.1.length = n) : ∀ j, j ≤ n → InH (rj b j) (impJ (SQ xss ws gs) hf5 s j).1 ∧ Rel xss ws gs s (impJ (SQ xss ws gs) hf5 s j)
  | 0, _ => ⟨hx, .inl ⟨rfl, rfl⟩⟩
  | j + 1, hj => by
    obtain ⟨a1, a2⟩ := impJ_ok h hb hx hl j (by omega)
    obtain ⟨b1, b2⟩ := impN_ok h hb a1 (((impJ_facts (SQ xss ws gs) hf5 s j).1).trans hl) (show j < n by omega)
    exact ⟨b1, a2.trans b2⟩
theorem impF_ok (h : DDok xss ws gs n) : ∀ (m b : Nat) (s : List Nat × Nat), b + m ≤ 5 → InH (rj b 0) s.1 → s.1.length = n → InH (fun _ => 5) (impF (SQ xss ws gs) hf5 s m).1 ∧ (impF (SQ xss ws gs) hf5 s m).1.length = n ∧ Rel xss ws gs s (impF (SQ xss ws gs) hf5 s m)
  | 0, b, s, hb, hx, hl => by
    refine ⟨fun i hi => ?_, hl, .inl ⟨rfl, rfl⟩⟩
    obtain ⟨k, k1, k2, k3⟩ := hx i hi
    have e : rj b 0 i = b := by unfold rj; rw [if_neg (by omega)]
    rw [e] at k1 k2
    exact ⟨k, by dsimp only; omega, by dsimp only; omega, k3⟩
  | m + 1, b, s, hb, hx, hl => by
    obtain ⟨a1, a2⟩ := impJ_ok h (show b ≤ 4 by omega) hx hl n (Nat.le_refl _)
    have hl2 := ((impJ_facts (SQ xss ws gs) hf5 s n).1).trans hl
    have a3 : InH (rj (b + 1) 0) (impJ (SQ xss ws gs) hf5 s n).1 := by
      intro i hi
      obtain ⟨k, k1, k2, k3⟩ := a1 i hi
      have e : rj b n i = b + 1 := by unfold rj; rw [if_pos (by omega)]
      have e2 : rj (b + 1) 0 i = b + 1 := by unfold rj; rw [if_neg (by omega)]
      rw [e] at k1 k2
      exact ⟨k, by rw [e2]; omega, by rw [e2]; omega, k3⟩
    rw [impF, hl]
    split
    · refine ⟨fun i hi => ?_, hl2, a2⟩
      obtain ⟨k, k1, k2, k3⟩ := a3 i hi
      have e2 : rj (b + 1) 0 i = b + 1 := by unfold rj; rw [if_neg (by omega)]
      rw [e2] at k1 k2
      exact ⟨k, by dsimp only; omega, by dsimp only; omega, k3⟩
    · obtain ⟨b1, b2, b3⟩ := impF_ok h m (b + 1) _ (by omega) a3 hl2
      exact ⟨b1, b2, a2.trans b3⟩
/-- The steps of drawn numbers. -/
theorem steps_in (hx : ∀ y ∈ x, Q17 y) : InH (rj 0 0) (x.map (stepOf hf5)) := by
  intro i hi
  rw [List.length_map] at hi
  have e : (x.map (stepOf hf5)).getD i 0 = stepOf hf5 (x.getD i 0) := by simp [List.getD, hi]
  obtain ⟨k, hk, e2⟩ := getD_H hx hi 0
  have := ru1 ⟨k, hk⟩
  rw [List.any_eq_true] at this
  obtain ⟨m, m1, m2⟩ := this
  rw [List.mem_range] at m1
  rw [beq_iff_eq] at m2
  refine ⟨m + 6, by omega, by unfold rj; rw [if_neg (by omega)]; omega, ?_⟩
  rw [e, e2]; exact m2
theorem steps_gap (hx : ∀ y ∈ x, Q17 y) (hi : i < x.length) : fcmp .gtr .f64 (gapW (up ((x.map (stepOf hf5)).getD i 0)) (up (x.getD i 0))) 4598175219545276416 = false := by
  have e : (x.map (stepOf hf5)).getD i 0 = stepOf hf5 (x.getD i 0) := by simp [List.getD, hi]
  obtain ⟨k, hk, e2⟩ := getD_H hx hi 0
  have := ru4 ⟨k, hk⟩
  rw [Bool.not_eq_true'] at this
  rw [e, e2]; exact this
theorem imp_ok (h : DDok xss ws gs n) (hx : ∀ y ∈ x, Q17 y) (hl : x.length = n) {m : Nat} (hm : m ≤ 5) {s : List Nat × Nat} (hs : s = impF (SQ xss ws gs) hf5 (x.map (stepOf hf5), 0) m) :
    (∀ i, i < n → ∃ k, k ≤ 20 ∧ s.1.getD i 0 = hw2 k) ∧ s.1.length = n ∧ fcmp .gtr .f32 (sqK xss ws gs s.1 xss.length) (sqK xss ws gs (x.map (stepOf hf5)) xss.length) = false ∧
      fcmp .lss .f32 (sqK xss ws gs s.1 xss.length) (sqK xss ws gs (x.map (stepOf hf5)) xss.length) = decide (0 < s.2) := by
  have h0 := steps_in hx
  have hl0 : (x.map (stepOf hf5)).length = n := by rw [List.length_map]; exact hl
  obtain ⟨a1, a2, a3⟩ := impF_ok h m 0 (x.map (stepOf hf5), 0) (by omega) h0 hl0
  rw [← hs] at a1 a2 a3
  have v0 := sqV_is h (rj_le (by omega)) h0 hl0
  have v1 := sqV_is h (fun _ => (by decide : (5 : Nat) ≤ 6)) a1 a2
  refine ⟨fun i hi => ?_, a2, ?_⟩
  · obtain ⟨k, k1, k2, k3⟩ := a1 i (by omega)
    dsimp only at k2
    exact ⟨k, by omega, k3⟩
  · rw [apx_gtr v1 v0, apx_lss v1 v0]
    rcases a3 with ⟨c1, c2⟩ | ⟨c1, c2⟩
    · change s.2 = 0 at c1
      change s.1 = x.map (stepOf hf5) at c2
      rw [c1, c2]
      exact ⟨decide_eq_false (by omega), by rw [decide_eq_false (by omega), decide_eq_false (by omega)]⟩
    · change 0 < s.2 at c1
      change sqV xss ws gs s.1 < sqV xss ws gs (x.map (stepOf hf5)) at c2
      exact ⟨decide_eq_false (by omega), by rw [decide_eq_true c1, decide_eq_true c2]⟩
theorem steps_at (hx : ∀ y ∈ x, Q17 y) (hi : i < x.length) : ∃ k, k ≤ 20 ∧ (x.map (stepOf hf5)).getD i 0 = hw2 k := by
  obtain ⟨k, k1, k2, k3⟩ := steps_in hx i (by rw [List.length_map]; exact hi)
  have e2 : rj 0 0 i = 0 := by unfold rj; rw [if_neg (by omega)]
  rw [e2] at k1 k2
  exact ⟨k, by omega, k3⟩
/-! ### signs -/
def S75 (s : List Nat) : Prop := ∀ y ∈ s, y = 1061158912 ∨ y = 3208642560
theorem neg75 {y : Nat} (h : y = 1061158912 ∨ y = 3208642560) : fneg .f32 y = 1061158912 ∨ fneg .f32 y = 3208642560 := by
  have := ru6
  simp only [Bool.and_eq_true, beq_iff_eq] at this
  rcases h with rfl | rfl
  · exact .inr this.1.1
  · exact .inl this.1.2
theorem sgnN_75 {sq : List Nat → Nat} {s : List Nat} (h : S75 s) : S75 (sgnN sq s j) := by
  unfold sgnN
  split
  · unfold sgnT
    by_cases hj : j < s.length
    · intro y hy
      rcases List.mem_or_eq_of_mem_set hy with h1 | h1
      · exact h y h1
      · rw [h1]; exact neg75 (getD_H h hj 0)
    · rw [List.set_eq_of_length_le (by omega)]; exact h
  · exact h
theorem sgnJ_75 {sq : List Nat → Nat} {s : List Nat} (h : S75 s) : ∀ j, S75 (sgnJ sq s j)
  | 0 => h
  | j + 1 => sgnN_75 (sgnJ_75 h j)
theorem sgnR_75 {sq : List Nat → Nat} {s : List Nat} (h : S75 s) : ∀ r, S75 (sgnR sq s r)
  | 0 => h
  | r + 1 => sgnJ_75 (sgnR_75 h r) _
theorem sgn0_75 : S75 (sgn0 xss 1061158912) := fun y hy => by
  rw [List.eq_of_mem_replicate hy]; exact neg75 (.inl rfl)
/-! ### the worst miss -/
end
section
variable {x : Nat} {X : Int}
theorem apx_abs (h : apx x X) : apx (fabs .f32 x) (X.natAbs : Int) := by
  have hu := h.units
  unfold fabs
  rw [h.num]
  simp only [Bool.false_eq_true, if_false]
  refine ⟨?_, by rw [rng_abs]; exact h.2.1, ?_⟩
  · exact Nat.lt_of_lt_of_le (Nat.mod_lt _ (pow_pos' _)) (Nat.le_of_lt (sw_lt .f32))
  · unfold sval
    rw [sgn_abs, rng_abs, hu]; rfl
theorem apx_self (h : apx x X) : fcmp .eql .f32 x x = true := by
  show (FloatKind.f32.format.order x x == some .eq) = true
  rw [apx_cmp h h, compare_eq.2 rfl]; rfl
theorem apx_neg (h : apx x X) : apx (fneg .f32 x) (-X) := by
  have hw : x < 2 ^ 32 := h.1
  have hsw : FloatKind.f32.format.signWeight = 2147483648 := by decide
  have key : Op.negFloat .f32 x < 2 ^ 32 ∧ rng FloatKind.f32.format (Op.negFloat .f32 x) = rng FloatKind.f32.format x ∧ sgn FloatKind.f32.format (Op.negFloat .f32 x) = !sgn FloatKind.f32.format x := by
    have e0 : Op.negFloat .f32 x = x ^^^ 2 ^ 31 := rfl
    rw [e0]
    by_cases hlt : x < 2147483648
    · have e : x ^^^ 2 ^ 31 = x + 2147483648 := by
        have h2 := xor_top (n := 31) (r := x) (by omega)
        rw [show (2 : Nat) ^ 31 = 2147483648 from rfl] at h2 ⊢
        have h3 : (2147483648 + x) ^^^ 2147483648 ^^^ 2147483648 = x ^^^ 2147483648 := by rw [h2]
        rw [Nat.xor_assoc, Nat.xor_self, Nat.xor_zero] at h3
        omega
      rw [e]
      unfold rng sgn
      rw [hsw]
      refine ⟨by omega, by omega, ?_⟩
      rw [show (x + 2147483648) / 2147483648 % 2 = 1 by omega, show x / 2147483648 % 2 = 0 by omega]; rfl
    · have e : x ^^^ 2 ^ 31 = x - 2147483648 := by
        have h2 := xor_top (n := 31) (r := x - 2147483648) (by omega)
        rw [show (2 : Nat) ^ 31 = 2147483648 from rfl] at h2 ⊢
        rw [show 2147483648 + (x - 2147483648) = x by omega] at h2
        exact h2
      rw [e]
      unfold rng sgn
      rw [hsw]
      refine ⟨by omega, by omega, ?_⟩
      rw [show (x - 2147483648) / 2147483648 % 2 = 0 by omega, show x / 2147483648 % 2 = 1 by omega]; rfl
  have hf : fneg .f32 x = Op.negFloat .f32 x := by
    unfold fneg
    refine cb_num ?_
    rw [fnan_rng, key.2.1]
    exact decide_eq_false (by have := h.2.1; omega)
  rw [hf]
  refine ⟨key.1, by rw [key.2.1]; exact h.2.1, ?_⟩
  rw [← h.2.2]
  unfold sval
  rw [key.2.1, key.2.2]
  cases sgn FloatKind.f32.format x <;> simp
end
theorem worst_ok {m : Nat → Nat} {K : Nat} (hm : ∀ i, i < K → ∃ M, apx (m i) M) : ∀ k, 1 ≤ k → k ≤ K → 0 ≤ (worstK m k).1 ∧ (worstK m k).1 < k ∧ ∃ W : Int, apx (worstK m k).2 W ∧ ∀ i, i < k → ∃ M, apx (m i) M ∧ M ≤ W ∧ -M ≤ W
  | 0, h, _ => absurd h (by decide)
  | k + 1, _, hk => by
    obtain ⟨M, hM⟩ := hm k (by omega)
    have ha := apx_abs hM
    have hs := apx_self ha
    by_cases h0 : k = 0
    · subst h0
      rw [worstK_yes hs (.inl (by simp [worstK]))]
      refine ⟨by simp, by simp, _, ha, fun i hi => ?_⟩
      obtain rfl : i = 0 := by omega
      exact ⟨M, hM, by omega, by omega⟩
    · obtain ⟨a1, a2, W, a3, a4⟩ := worst_ok hm k (by omega) (by omega)
      have hg := apx_gtr ha a3
      cases hc : fcmp .gtr .f32 (fabs .f32 (m k)) (worstK m k).2 with
      | true =>
        rw [hc] at hg
        have := of_decide_eq_true hg.symm
        rw [worstK_yes hs (.inr hc)]
        refine ⟨by simp, by dsimp only; omega, _, ha, fun i hi => ?_⟩
        by_cases e : i = k
        · subst e; exact ⟨M, hM, by omega, by omega⟩
        · obtain ⟨M', b1, b2, b3⟩ := a4 i (by omega)
          exact ⟨M', b1, by omega, by omega⟩
      | false =>
        rw [hc] at hg
        have := of_decide_eq_false hg.symm
        rw [worstK_no2 a1 hc]
        refine ⟨a1, by omega, W, a3, fun i hi => ?_⟩
        by_cases e : i = k
        · subst e; exact ⟨M, hM, by omega, by omega⟩
        · exact a4 i (by omega)
end Go.Proofs.Ytalimcjmaoapkaa


namespace Go.Proofs.Ytalimcjmaoapkaa
open Go.RowKit

section
variable {xs x ws gs : List Nat} {xss : List (List Nat)} {n i j : Nat}
theorem lim_in (h : DDok xss ws gs n) (r : Nat) : InR (limR xss ws gs L15 (List.replicate (xss.getD 0 []).length 0) r) := by
  rw [dd_len0 h]
  exact (limR_ok h zeros_in List.length_replicate r).1
theorem lim_cmp (h : InR x) (hi : i < x.length) : fcmp .gtr .f32 (x.getD i 0) 1069547520 = false ∧ fcmp .lss .f32 (x.getD i 0) 3217031168 = false := by
  obtain ⟨a1, a2, a3⟩ := h.at hi
  obtain ⟨b1, b2⟩ := l15
  have := ru6
  simp only [Bool.and_eq_true, beq_iff_eq] at this
  rw [this.2] at b2
  exact ⟨by rw [show (1069547520 : Nat) = L15 from rfl, apx_gtr a1 b1]; exact decide_eq_false (by omega), by rw [apx_lss a1 b2]; exact decide_eq_false (by omega)⟩
theorem lim_left (h : DDok xss ws gs n) {r : Nat} (hr : r ≤ 5) :
    fcmp .gtr .f32 (sqK xss ws gs (limR xss ws gs L15 (List.replicate (xss.getD 0 []).length 0) r) xss.length) (fop .add .f32 (sqK xss ws gs (List.replicate (xss.getD 0 []).length 0) xss.length) 1008981770) = false := by
  rw [dd_len0 h]
  exact left_le h hr
theorem lim_length (r : Nat) : (limR xss ws gs L15 (List.replicate n 0) r).length = n := by rw [limR_length, List.length_replicate]
theorem sgn_length (sq : List Nat → Nat) (r : Nat) : (sgnR sq (sgn0 xss 1061158912) r).length = (xss.getD 0 []).length := by rw [sgnR_length, sgn0_length]
theorem sgn_at (sq : List Nat → Nat) (r : Nat) (hi : i < (xss.getD 0 []).length) : (sgnR sq (sgn0 xss 1061158912) r).getD i 0 = 1061158912 ∨ (sgnR sq (sgn0 xss 1061158912) r).getD i 0 = 3208642560 :=
  getD_H (sgnR_75 sgn0_75 r) (by rw [sgn_length]; exact hi) 0
theorem ne75 : fcmp .neq .f32 1061158912 1061158912 = false ∧ fcmp .neq .f32 3208642560 3208642560 = false := by decide +kernel
theorem worst_all (h : DDok xss ws gs n) (hx : ∀ y ∈ x, Q17 y) (hl : x.length = n) : worstOk xss ws gs x = true ∧ (0 ≤ worstI xss ws gs x ∧ worstI xss ws gs x < (xss.length : Int)) ∧
    ∀ i, i < xss.length → fcmp .gtr .f32 (missAt xss ws x i) (worstF xss ws gs x) = false ∧ fcmp .gtr .f32 (fneg .f32 (missAt xss ws x i)) (worstF xss ws gs x) = false := by
  have hm : ∀ i, i < xss.length → ∃ M, apx (missAt xss ws x i) M := fun i hi => by
    obtain ⟨t, _, t2⟩ := miss_dy h hx hl hi
    exact ⟨_, apx_dy t2⟩
  obtain ⟨a1, a2, W, a3, a4⟩ := worst_ok hm xss.length h.m1 (Nat.le_refl _)
  have ho := worst_yes (dd_fits h hl) a1
  unfold worstI worstF
  rw [ho]
  simp only [if_true]
  refine ⟨trivial, ⟨a1, a2⟩, fun i hi => ?_⟩
  obtain ⟨M, m1, m2, m3⟩ := a4 i hi
  exact ⟨by rw [apx_gtr m1 a3]; exact decide_eq_false (by omega), by rw [apx_gtr (apx_neg m1) a3]; exact decide_eq_false (by omega)⟩
theorem steps_ok (h : DDok xss ws gs n) (hl : x.length = n) : stepsOk x hf5 = true ∧ stepsOf x hf5 = x.map (stepOf hf5) := by
  have hu := ru5
  simp only [Bool.and_eq_true] at hu
  have hs : stepsOk x hf5 = true := by
    unfold stepsOk
    rw [hu.1.1, decide_eq_true (by have := h.n2; omega)]; rfl
  exact ⟨hs, by unfold stepsOf; rw [hs]; rfl⟩
theorem imp_yes (h : DDok xss ws gs n) (hl : x.length = n) {r : Nat} (hr : r ≤ 5) : impOk xss ws gs (x.map (stepOf hf5)) hf5 (r : Int) = true ∧ impD xss ws gs (x.map (stepOf hf5)) hf5 (r : Int) = impF (SQ xss ws gs) hf5 (x.map (stepOf hf5), 0) r := by
  have hu := ru5
  simp only [Bool.and_eq_true] at hu
  have ho := impOk_yes (rn := (r : Int)) (dd_fits (x := x.map (stepOf hf5)) h (by rw [List.length_map]; exact hl)) hu.1.1 ⟨by omega, by omega⟩
  exact ⟨ho, by rw [impD_yes ho, Int.toNat_natCast]; rfl⟩
theorem lim_yes (h : DDok xss ws gs n) {r : Nat} (hr : r ≤ 5) : limOk xss ws gs (List.replicate (xss.getD 0 []).length 0) L15 (r : Int) = true ∧ limD xss ws gs (List.replicate (xss.getD 0 []).length 0) L15 (r : Int) = limR xss ws gs L15 (List.replicate (xss.getD 0 []).length 0) r := by
  have hu := ru5
  simp only [Bool.and_eq_true] at hu
  have ho := limOk_yes (rn := (r : Int)) (fits_yes (x := List.replicate (xss.getD 0 []).length 0) (dd_valid h) List.length_replicate) hu.2 ⟨by omega, by omega⟩
  exact ⟨ho, by rw [limD_yes ho, Int.toNat_natCast]⟩
theorem sgn_yes (h : DDok xss ws gs n) {r : Nat} (hr : r ≤ 5) : sgnOk xss ws gs 1061158912 (r : Int) = true ∧ sgnD xss ws gs 1061158912 (r : Int) = sgnR (SQ xss ws gs) (sgn0 xss 1061158912) r := by
  have hu := ru5
  simp only [Bool.and_eq_true] at hu
  have ho := sgnOk_yes (rn := (r : Int)) (dd_valid h) hu.1.2 ⟨by omega, by omega⟩
  exact ⟨ho, by rw [sgnD_yes ho, Int.toNat_natCast]; rfl⟩
theorem sq_yes (h : DDok xss ws gs n) (hl : x.length = n) : squareD xss ws gs x = sqK xss ws gs x xss.length := squareD_yes (dd_fits h hl)
theorem sq_zero (h : DDok xss ws gs n) : fitsD xss ws gs (List.replicate (xss.getD 0 []).length 0) = true := fits_yes (dd_valid h) List.length_replicate
end
end Go.Proofs.Ytalimcjmaoapkaa

