/- Walks: Imp. Printed by gen.py. -/
import Derived.Test.YtcimhmnbemgpoaaWLim
import Derived.KernelRfl
namespace Go.Proofs.Ytcimhmnbemgpoaa
open Go.RowKit
set_option linter.unusedVariables false
set_option linter.unusedSimpArgs false
set_option maxRecDepth 20000

theorem elt27_Imp : Elt Try.prog 27 [Value.float .f32 0] 4 := Elt.mk' (by kernel_rfl) (by decide)
theorem sz27_Imp : (Try.prog.info? 27).map (·.size) = some 1 := by kernel_rfl
theorem known99_Imp : Known Try.prog 99 := Known.mk' Try.func99 (by kernel_rfl)
theorem known60_Imp : Known Try.prog 60 := Known.mk' Try.func60 (by kernel_rfl)
theorem known110_Imp : Known Try.prog 110 := Known.mk' Try.func110 (by kernel_rfl)
theorem known84_Imp : Known Try.prog 84 := Known.mk' Try.func84 (by kernel_rfl)
theorem fb27_Imp : flatB Try.prog 27 = true := by kernel_rfl
theorem known111_Imp : Known Try.prog 111 := Known.mk' Try.func111 (by kernel_rfl)
theorem known112_Imp : Known Try.prog 112 := Known.mk' Try.func112 (by kernel_rfl)
theorem sz30_Imp : (Try.prog.info? 30).map (·.size) = some 3 := by kernel_rfl
theorem known64_Imp : Known Try.prog 64 := Known.mk' Try.func64 (by kernel_rfl)
theorem known113_Imp : Known Try.prog 113 := Known.mk' Try.func113 (by kernel_rfl)
theorem known98_Imp : Known Try.prog 98 := Known.mk' Try.func98 (by kernel_rfl)
theorem known114_Imp : Known Try.prog 114 := Known.mk' Try.func114 (by kernel_rfl)
theorem known115_Imp : Known Try.prog 115 := Known.mk' Try.func115 (by kernel_rfl)
theorem sz25_Imp : (Try.prog.info? 25).map (·.size) = some 3 := by kernel_rfl
theorem known15_Imp : Known Try.prog 15 := Known.mk' Try.func15 (by kernel_rfl)
theorem known17_Imp : Known Try.prog 17 := Known.mk' Try.func17 (by kernel_rfl)
theorem known18_Imp : Known Try.prog 18 := Known.mk' Try.func18 (by kernel_rfl)
theorem known52_Imp : Known Try.prog 52 := Known.mk' Try.func52 (by kernel_rfl)
theorem zero30_Imp : (Try.prog.info? 30).bind (·.zero) = some (Value.agg #[Value.slice none 0 0, Value.slice none 0 0, Value.slice none 0 0]) := by kernel_rfl
theorem known53_Imp : Known Try.prog 53 := Known.mk' Try.func53 (by kernel_rfl)
theorem known22_Imp : Known Try.prog 22 := Known.mk' Try.func22 (by kernel_rfl)
theorem mixed_Imp : Try.prog.follows .mixedOrders = true := by kernel_rfl
theorem known21_Imp : Known Try.prog 21 := Known.mk' Try.func21 (by kernel_rfl)
theorem known33_Imp : Known Try.prog 33 := Known.mk' Try.func33 (by kernel_rfl)
theorem known29_Imp : Known Try.prog 29 := Known.mk' Try.func29 (by kernel_rfl)
theorem known30_Imp : Known Try.prog 30 := Known.mk' Try.func30 (by kernel_rfl)

theorem c_l07With {w : World} {a : Option Addr} {c j v : Nat} {xs : List Nat} (hA : Cl w a (fl xs)) (hn : xs.length ≤ 1048576) (hj : j < xs.length) : New Try.prog 111 [.slice a xs.length c, .int .i64 (j : Int), .float .f32 v] w (fun p : Option Addr × Nat => .slice p.1 (xs.set j v).length p.2) (fun p => [⟨p.1, fl (xs.set j v), p.2 * 1, 27⟩]) := by
  refine New.enter Try.func111 rfl Try.ntmps111 (Nat.le_of_ble_eq_true rfl) ?_
  refine V.seq ?_
  refine V.region ?_
  refine VL.r (.inl rfl) rfl (by decide) (yr_assign (u := .slice none 0 0) rfl rfl) ?_
  refine VL.nil ?_
  refine VE.then_wp ?_
  refine V.seq ?_
  refine V.region ?_
  refine VL.new1 (.inl rfl) rfl (by decide) (yn_lit rfl Try.underlying23 elt27_Imp rfl (by decide) .nil (by simp) rfl rfl rfl) ?_
  intro b8
  refine VL.r (.inl rfl) rfl (by decide) (yr_move rfl rfl) ?_
  refine VL.c (.inl rfl) rfl (by decide) (yc_appendz 1 rfl rfl Try.underlying23 elt27_Imp rfl rfl (by repeat (first | exact UpdF.here | apply UpdF.there | apply UpdF.thereS)) (by first | exact Sees.root (by assumption) | exact Sees.own (by repeat (first | exact List.mem_cons_self | exact List.mem_append_left _ (by assumption) | apply List.mem_cons_of_mem | apply List.mem_append_right)) | exact Sees.root (hR _ (by omega)) | exact Sees.own (RowsIn.mem (by repeat (first | exact RowsIn.here | exact RowsIn.last | apply RowsIn.there | apply RowsIn.thereS)) _ (by omega))) rfl (by simp) (by rw [fl_length]; omega) (by first | rfl | exact fl_scal _) (by first | rfl | exact fl_scal _) (by omega) (by omega)) ?_
  rintro ⟨a10, c10⟩
  refine VL.r (.inl rfl) rfl (by decide) (yr_assign rfl rfl) ?_
  refine VL.nil ?_
  refine VE.then_wp ?_
  refine V.seq ?_
  refine V.region ?_
  refine VL.r (.inl rfl) rfl (by decide) (yr_move rfl rfl) ?_
  refine VL.r (.inl rfl) rfl (by decide) (yr_move rfl rfl) ?_
  refine VL.r (.inl rfl) rfl (by decide) (yr_move rfl rfl) ?_
  refine VL.q (.inl rfl) rfl (by decide) (yq_idx (k := j) rfl Try.underlying23 sz27_Imp rfl rfl (by first | exact Sees.root (by assumption) | exact Sees.own (by repeat (first | exact List.mem_cons_self | exact List.mem_append_left _ (by assumption) | apply List.mem_cons_of_mem | apply List.mem_append_right)) | exact Sees.root (hR _ (by omega)) | exact Sees.own (RowsIn.mem (by repeat (first | exact RowsIn.here | exact RowsIn.last | apply RowsIn.there | apply RowsIn.thereS)) _ (by omega))) (by first | rfl | omega | (push_cast; rfl) | (push_cast; omega)) (by simp [fl_length]) (by omega)) ?_
  refine VL.s (.inl rfl) rfl (yc_store rfl sz27_Imp rfl rfl (by repeat (first | exact UpdF.here | apply UpdF.there | apply UpdF.thereS)) (.inl ⟨rfl, rfl⟩) rfl (by first | (rw [fl_length]; omega) | (simp [fl_length]; omega)) (by decide) (by first | exact fl_set _ _ _ | (simp; exact fl_set _ _ _))) ?_
  rintro ⟨⟩
  refine VL.nil ?_
  refine VE.then_wp ?_
  refine V.seq ?_
  refine V.region ?_
  refine VL.r (.inl rfl) rfl (by decide) (yr_move rfl rfl) ?_
  refine VL.r (.inl rfl) rfl (by decide) (yr_assign rfl rfl) ?_
  refine VL.nil ?_
  refine VE.then_wp ?_
  refine V.ret ?_
  refine ret1 rfl rfl (fun w1 hw => ?_)
  exact ⟨(a10, c10), by simp, hw.out1⟩

theorem c_with {w : World} {a : Option Addr} {c j v : Nat} {xs : List Nat} (hA : Cl w a (fl xs)) (hn : xs.length ≤ 1048576) (hj : j < xs.length) : New Try.prog 115 [.slice a xs.length c, .int .i64 (j : Int), .float .f32 v] w (fun p : Option Addr × Nat => .slice p.1 (xs.set j v).length p.2) (fun p => [⟨p.1, fl (xs.set j v), p.2 * 1, 27⟩]) := by
  refine New.enter Try.func115 rfl Try.ntmps115 (Nat.le_of_ble_eq_true rfl) ?_
  refine V.seq ?_
  refine V.region ?_
  refine VL.r (.inl rfl) rfl (by decide) (yr_assign (u := .slice none 0 0) rfl rfl) ?_
  refine VL.nil ?_
  refine VE.then_wp ?_
  refine V.seq ?_
  refine V.region ?_
  refine VL.r (.inl rfl) rfl (by decide) (yr_move rfl rfl) ?_
  refine VL.new1 (.inl rfl) rfl (by decide) (yn_callf rfl known99_Imp (.cons rfl .nil) (fun w hw => c_cloneF (by first | exact Sees.root (by assumption) w hw | exact Sees.own (by repeat (first | exact List.mem_cons_self | exact List.mem_append_left _ (by assumption) | apply List.mem_cons_of_mem | apply List.mem_append_right)) w hw) (by omega))) ?_
  rintro ⟨a9, c9⟩
  refine VL.r (.inl rfl) rfl (by decide) (yr_assign rfl rfl) ?_
  refine VL.nil ?_
  refine VE.then_wp ?_
  refine V.seq ?_
  refine V.region ?_
  refine VL.r (.inl rfl) rfl (by decide) (yr_move rfl rfl) ?_
  refine VL.r (.inl rfl) rfl (by decide) (yr_move rfl rfl) ?_
  refine VL.r (.inl rfl) rfl (by decide) (yr_move rfl rfl) ?_
  refine VL.q (.inl rfl) rfl (by decide) (yq_idx (k := j) rfl Try.underlying23 sz27_Imp rfl rfl (by first | exact Sees.root (by assumption) | exact Sees.own (by repeat (first | exact List.mem_cons_self | exact List.mem_append_left _ (by assumption) | apply List.mem_cons_of_mem | apply List.mem_append_right)) | exact Sees.root (hR _ (by omega)) | exact Sees.own (RowsIn.mem (by repeat (first | exact RowsIn.here | exact RowsIn.last | apply RowsIn.there | apply RowsIn.thereS)) _ (by omega))) (by first | rfl | omega | (push_cast; rfl) | (push_cast; omega)) (by simp [fl_length]) (by omega)) ?_
  refine VL.s (.inl rfl) rfl (yc_store rfl sz27_Imp rfl rfl (by repeat (first | exact UpdF.here | apply UpdF.there | apply UpdF.thereS)) (.inl ⟨rfl, rfl⟩) rfl (by first | (rw [fl_length]; omega) | (simp [fl_length]; omega)) (by decide) (by first | exact fl_set _ _ _ | (simp; exact fl_set _ _ _))) ?_
  rintro ⟨⟩
  refine VL.nil ?_
  refine VE.then_wp ?_
  refine V.seq ?_
  refine V.region ?_
  refine VL.r (.inl rfl) rfl (by decide) (yr_move rfl rfl) ?_
  refine VL.r (.inl rfl) rfl (by decide) (yr_assign rfl rfl) ?_
  refine VL.nil ?_
  refine VE.then_wp ?_
  refine V.ret ?_
  refine ret1 rfl rfl (fun w1 hw => ?_)
  exact ⟨(a9, c9), by simp, hw.out1⟩

theorem c_specImp {w : World} {a a1 a2 : Option Addr} {c c1 c2 : Nat} {f : Nat → Option Addr × Nat} {xss : List (List Nat)} {ws gs : List Nat} {b : Option Addr} {d : Nat} {x : List Nat} {unit : Nat} {rn : Int} (hA : Cl w a (hd f xss)) (hR : Rws w f xss) (hW : Cl w a1 (fl ws)) (hG : Cl w a2 (fl gs)) (hB : Cl w b (fl x)) (hsz : bulk xss + ws.length + gs.length ≤ 1048576) : New Try.prog 52 [.agg #[.slice a xss.length c, .slice a1 ws.length c1, .slice a2 gs.length c2], .slice b x.length d, .float .f32 unit, .int .i64 rn] w (fun p : Option Addr × Nat => .tuple #[.slice p.1 (impD xss ws gs x unit rn).1.length p.2, .int .i64 ((impD xss ws gs x unit rn).2 : Nat), .bool (impOk xss ws gs x unit rn)]) (fun p => [⟨p.1, fl (impD xss ws gs x unit rn).1, p.2 * 1, 27⟩]) := by
  refine New.enter Try.func52 rfl Try.ntmps52 (Nat.le_of_ble_eq_true rfl) ?_
  have hr : ∀ i, i < xss.length → (xss.getD i []).length ≤ 1048576 := fun i hi => by have := bulk_row hi; omega
  have hxl : xss.length ≤ bulk xss := by unfold bulk; omega
  refine V.seq ?_
  refine V.region ?_
  refine VL.new1 (.inl rfl) rfl (by decide) (yn_box rfl rfl (.inr ⟨rfl, rfl⟩)) ?_
  intro b4
  refine VL.r (.inl rfl) rfl (by decide) (yr_assign (u := .slice none 0 0) rfl rfl) ?_
  refine VL.r (.inl rfl) rfl (by decide) (yr_assign (u := .int .i64 0) rfl rfl) ?_
  refine VL.r (.inl rfl) rfl (by decide) (yr_assign (u := .bool false) rfl rfl) ?_
  refine VL.nil ?_
  refine VE.then_wp ?_
  refine V.seq ?_
  refine V.seq ?_
  refine V.region ?_
  refine VL.r (.inl rfl) rfl (by decide) (yr_move rfl rfl) ?_
  refine VL.q (.inl rfl) rfl (by decide) (yq_callf rfl known60_Imp (.cons rfl (.cons rfl .nil)) (fun w hw => (c_l07Fits (by first | exact Sees.root (by assumption) w hw | exact Sees.own (by repeat (first | exact List.mem_cons_self | exact List.mem_append_left _ (by assumption) | apply List.mem_cons_of_mem | apply List.mem_append_right)) w hw) (by first | exact Sees.root (by assumption) w hw | exact Sees.own (by repeat (first | exact List.mem_cons_self | exact List.mem_append_left _ (by assumption) | apply List.mem_cons_of_mem | apply List.mem_append_right)) w hw) (by first | exact Rws.root (by assumption) hw | exact Rws.own (by repeat (first | exact RowsIn.here | exact RowsIn.last | apply RowsIn.there | apply RowsIn.thereS)) hw) (by first | exact Sees.root (by assumption) w hw | exact Sees.own (by repeat (first | exact List.mem_cons_self | exact List.mem_append_left _ (by assumption) | apply List.mem_cons_of_mem | apply List.mem_append_right)) w hw) (by first | exact Sees.root (by assumption) w hw | exact Sees.own (by repeat (first | exact List.mem_cons_self | exact List.mem_append_left _ (by assumption) | apply List.mem_cons_of_mem | apply List.mem_append_right)) w hw) (by first | exact Sees.root (by assumption) w hw | exact Sees.own (by repeat (first | exact List.mem_cons_self | exact List.mem_append_left _ (by assumption) | apply List.mem_cons_of_mem | apply List.mem_append_right)) w hw) (by omega)))) ?_
  refine VL.r (.inl rfl) rfl (by decide) (yr_not rfl rfl) ?_
  refine VL.r (.inl rfl) rfl (by decide) (yr_move rfl rfl) ?_
  refine VX.split 21 _ rfl (fun h1 => ?_) (fun h1 => ?_)
  · skip
    replace h1 := bnot_t h1
    refine VL.no rfl rfl rfl rfl rfl (by decide) ?_
    refine VL.no rfl rfl rfl rfl rfl (by decide) ?_
    refine VL.no rfl rfl rfl rfl rfl (by decide) ?_
    refine VL.r (.inl rfl) rfl (by decide) (yr_pick_t (u := .bool true) rfl rfl rfl) ?_
    refine VL.r (.inl rfl) rfl (by decide) (yr_move rfl rfl) ?_
    refine VL.no rfl rfl rfl rfl rfl (by decide) ?_
    refine VL.no rfl rfl rfl rfl rfl (by decide) ?_
    refine VL.no rfl rfl rfl rfl rfl (by decide) ?_
    refine VL.r (.inl rfl) rfl (by decide) (yr_pick_t (u := .bool true) rfl rfl rfl) ?_
    refine VL.nil ?_
    refine VE.then_wp ?_
    refine V.condT rfl ?_
    refine V.seq ?_
    refine V.region ?_
    refine VL.r (.inl rfl) rfl (by decide) (yr_assign (u := .slice none 0 0) rfl rfl) ?_
    refine VL.r (.inl rfl) rfl (by decide) (yr_assign (u := .int .i64 0) rfl rfl) ?_
    refine VL.r (.inl rfl) rfl (by decide) (yr_assign (u := .bool false) rfl rfl) ?_
    refine VL.nil ?_
    refine VE.then_wp ?_
    refine V.ret ?_
    refine VE.then_ret ?_
    refine ret3 rfl rfl rfl rfl (by nofun) (by nofun) (by nofun) (fun w1 hw => ?_)
    first
      | (have hs : impOk xss ws gs x unit rn = true := impOk_yes hfit (by assumption) hrn
         have he : s = impD xss ws gs x unit rn := by
           rw [impD_yes hs, ← hF, show rn.toNat - k = 0 by omega]
           rfl
         rw [hs, ← he]
         exact ⟨(p, pc), rfl, hw.below, fun e he => (by rw [List.mem_singleton] at he; subst he; exact hw.ents _ (List.mem_append_left _ (by assumption))), List.pairwise_singleton _ _⟩)
      | (have hs : impOk xss ws gs x unit rn = true := impOk_yes hfit (by assumption) hrn
         obtain rfl : j = s.1.length := by omega
         have he : (impJ (fun y => sqK xss ws gs y xss.length) unit s s.1.length) = impD xss ws gs x unit rn := by
           rw [impD_yes hs]
           exact impF_stop (by omega) hF (by omega)
         rw [hs, ← he]
         exact ⟨(p1, q1), rfl, hw.below, fun e he => (by rw [List.mem_singleton] at he; subst he; exact hw.ents _ (List.mem_append_left _ (by assumption))), List.pairwise_singleton _ _⟩)
      | (have hs : impOk xss ws gs x unit rn = false := by first | exact impOk_no1 (by assumption) | exact impOk_no2 (by assumption) | exact impOk_no3 (by assumption)
         exact ⟨(none, 0), by rw [impD_no hs, hs]; rfl, hw.below, by rw [impD_no hs]; simp [fl, Ent.at], List.pairwise_singleton _ _⟩)
  · skip
    replace h1 := bnot_f h1
    have hfit := h1
    obtain ⟨⟨v1, v2, v3, v4, v5, v6, v7, v8⟩, hxn, hrow⟩ := fits_is hfit
    refine VL.r (.inr ⟨_, _, _, rfl, rfl, rfl⟩) rfl (by decide) (yr_move rfl rfl) ?_
    refine VL.q (.inr ⟨_, _, _, rfl, rfl, rfl⟩) rfl (by decide) (yq_callf rfl known110_Imp (.cons rfl .nil) (fun w hw => c_l03Above _)) ?_
    refine VL.r (.inr ⟨_, _, _, rfl, rfl, rfl⟩) rfl (by decide) (yr_not rfl rfl) ?_
    refine VL.r (.inl rfl) rfl (by decide) (yr_pick_f rfl rfl rfl) ?_
    refine VL.r (.inl rfl) rfl (by decide) (yr_move rfl rfl) ?_
    refine VX.split 26 _ rfl (fun h3 => ?_) (fun h3 => ?_)
    · skip
      replace h3 := bnot_t h3
      refine VL.no rfl rfl rfl rfl rfl (by decide) ?_
      refine VL.no rfl rfl rfl rfl rfl (by decide) ?_
      refine VL.no rfl rfl rfl rfl rfl (by decide) ?_
      refine VL.r (.inl rfl) rfl (by decide) (yr_pick_t (u := .bool true) rfl rfl rfl) ?_
      refine VL.nil ?_
      refine VE.then_wp ?_
      refine V.condT rfl ?_
      refine V.seq ?_
      refine V.region ?_
      refine VL.r (.inl rfl) rfl (by decide) (yr_assign (u := .slice none 0 0) rfl rfl) ?_
      refine VL.r (.inl rfl) rfl (by decide) (yr_assign (u := .int .i64 0) rfl rfl) ?_
      refine VL.r (.inl rfl) rfl (by decide) (yr_assign (u := .bool false) rfl rfl) ?_
      refine VL.nil ?_
      refine VE.then_wp ?_
      refine V.ret ?_
      refine VE.then_ret ?_
      refine ret3 rfl rfl rfl rfl (by nofun) (by nofun) (by nofun) (fun w1 hw => ?_)
      first
        | (have hs : impOk xss ws gs x unit rn = true := impOk_yes hfit (by assumption) hrn
           have he : s = impD xss ws gs x unit rn := by
             rw [impD_yes hs, ← hF, show rn.toNat - k = 0 by omega]
             rfl
           rw [hs, ← he]
           exact ⟨(p, pc), rfl, hw.below, fun e he => (by rw [List.mem_singleton] at he; subst he; exact hw.ents _ (List.mem_append_left _ (by assumption))), List.pairwise_singleton _ _⟩)
        | (have hs : impOk xss ws gs x unit rn = true := impOk_yes hfit (by assumption) hrn
           obtain rfl : j = s.1.length := by omega
           have he : (impJ (fun y => sqK xss ws gs y xss.length) unit s s.1.length) = impD xss ws gs x unit rn := by
             rw [impD_yes hs]
             exact impF_stop (by omega) hF (by omega)
           rw [hs, ← he]
           exact ⟨(p1, q1), rfl, hw.below, fun e he => (by rw [List.mem_singleton] at he; subst he; exact hw.ents _ (List.mem_append_left _ (by assumption))), List.pairwise_singleton _ _⟩)
        | (have hs : impOk xss ws gs x unit rn = false := by first | exact impOk_no1 (by assumption) | exact impOk_no2 (by assumption) | exact impOk_no3 (by assumption)
           exact ⟨(none, 0), by rw [impD_no hs, hs]; rfl, hw.below, by rw [impD_no hs]; simp [fl, Ent.at], List.pairwise_singleton _ _⟩)
    · skip
      replace h3 := bnot_f h3
      refine VL.r (.inr ⟨_, _, _, rfl, rfl, rfl⟩) rfl (by decide) (yr_move rfl rfl) ?_
      refine VL.q (.inr ⟨_, _, _, rfl, rfl, rfl⟩) rfl (by decide) (yq_callf rfl known84_Imp (.cons rfl (.cons rfl (.cons rfl .nil))) (fun w hw => c_l00In)) ?_
      refine VL.r (.inr ⟨_, _, _, rfl, rfl, rfl⟩) rfl (by decide) (yr_not rfl rfl) ?_
      refine VL.r (.inl rfl) rfl (by decide) (yr_pick_f rfl rfl rfl) ?_
      refine VL.nil ?_
      refine VE.then_wp ?_
      refine V.cond rfl (fun h5 => ?_) (fun h5 => ?_)
      · skip
        replace h5 := bnot_t h5
        refine V.seq ?_
        refine V.region ?_
        refine VL.r (.inl rfl) rfl (by decide) (yr_assign (u := .slice none 0 0) rfl rfl) ?_
        refine VL.r (.inl rfl) rfl (by decide) (yr_assign (u := .int .i64 0) rfl rfl) ?_
        refine VL.r (.inl rfl) rfl (by decide) (yr_assign (u := .bool false) rfl rfl) ?_
        refine VL.nil ?_
        refine VE.then_wp ?_
        refine V.ret ?_
        refine VE.then_ret ?_
        refine ret3 rfl rfl rfl rfl (by nofun) (by nofun) (by nofun) (fun w1 hw => ?_)
        first
          | (have hs : impOk xss ws gs x unit rn = true := impOk_yes hfit (by assumption) hrn
             have he : s = impD xss ws gs x unit rn := by
               rw [impD_yes hs, ← hF, show rn.toNat - k = 0 by omega]
               rfl
             rw [hs, ← he]
             exact ⟨(p, pc), rfl, hw.below, fun e he => (by rw [List.mem_singleton] at he; subst he; exact hw.ents _ (List.mem_append_left _ (by assumption))), List.pairwise_singleton _ _⟩)
          | (have hs : impOk xss ws gs x unit rn = true := impOk_yes hfit (by assumption) hrn
             obtain rfl : j = s.1.length := by omega
             have he : (impJ (fun y => sqK xss ws gs y xss.length) unit s s.1.length) = impD xss ws gs x unit rn := by
               rw [impD_yes hs]
               exact impF_stop (by omega) hF (by omega)
             rw [hs, ← he]
             exact ⟨(p1, q1), rfl, hw.below, fun e he => (by rw [List.mem_singleton] at he; subst he; exact hw.ents _ (List.mem_append_left _ (by assumption))), List.pairwise_singleton _ _⟩)
          | (have hs : impOk xss ws gs x unit rn = false := by first | exact impOk_no1 (by assumption) | exact impOk_no2 (by assumption) | exact impOk_no3 (by assumption)
             exact ⟨(none, 0), by rw [impD_no hs, hs]; rfl, hw.below, by rw [impD_no hs]; simp [fl, Ent.at], List.pairwise_singleton _ _⟩)
      · skip
        replace h5 := bnot_f h5
        have hrn := of_decide_eq_true h5
        refine V.skip ?_
        refine VE.then_wp ?_
        refine V.seq ?_
        refine V.region ?_
        refine VL.new1 (.inl rfl) rfl (by decide) (yn_lit rfl Try.underlying23 elt27_Imp rfl (by decide) .nil (by simp) rfl rfl rfl) ?_
        intro b31
        refine VL.r (.inl rfl) rfl (by decide) (yr_move rfl rfl) ?_
        refine VL.c (.inl rfl) rfl (by decide) (yc_appendz 1 rfl rfl Try.underlying23 elt27_Imp rfl rfl (by repeat (first | exact UpdF.here | apply UpdF.there | apply UpdF.thereS)) (by first | exact Sees.root (by assumption) | exact Sees.own (by repeat (first | exact List.mem_cons_self | exact List.mem_append_left _ (by assumption) | apply List.mem_cons_of_mem | apply List.mem_append_right)) | exact Sees.root (hR _ (by omega)) | exact Sees.own (RowsIn.mem (by repeat (first | exact RowsIn.here | exact RowsIn.last | apply RowsIn.there | apply RowsIn.thereS)) _ (by omega))) rfl (by simp) (by rw [fl_length]; omega) (by first | rfl | exact fl_scal _) (by first | rfl | exact fl_scal _) (by omega) (by omega)) ?_
        rintro ⟨a33, c33⟩
        refine VL.r (.inl rfl) rfl (by decide) (yr_assign rfl rfl) ?_
        refine VL.nil ?_
        refine VE.then_wp ?_
        refine V.seq ?_
        refine V.region ?_
        refine VL.r (.inl rfl) rfl (by decide) (yr_assign (u := .int .i64 0) rfl rfl) ?_
        refine VL.nil ?_
        refine VE.then_wp ?_
        refine V.seq ?_
        refine V.block ?_
        refine V.loopc (G := Nat × (List Nat × Nat) × (Option Addr) × Nat × (List Ent)) [(2, _), (4, _)] (fun ⟨k, s, p, pc, L⟩ => k ≤ rn.toNat ∧ s.1.length = x.length ∧ s.2 ≤ 8 * k ∧ impF (fun y => sqK xss ws gs y xss.length) unit s (rn.toNat - k) = impF (fun y => sqK xss ws gs y xss.length) unit (x, 0) rn.toNat ∧ (⟨p, fl s.1, pc * 1, 27⟩ : Ent) ∈ L) (fun ⟨k, s, p, pc, L⟩ => (L ++ [⟨some ⟨b4, 0, none⟩, [.slice a xss.length c, .slice a1 ws.length c1, .slice a2 gs.length c2], 3, 30⟩])) (fun ⟨k, s, p, pc, L⟩ => [(3, .int .i64 (rn - (k : Int))), (11, .slice p s.1.length pc), (12, .int .i64 (s.2 : Int))]) (fun ⟨k, s, p, pc, L⟩ => rn.toNat - k) (0, (x, 0), a33, c33, [⟨a33, fl x, c33 * 1, 27⟩]) (.cons rfl (.cons rfl .nil)) (.cons (congrArg (fun i => some (Value.int .i64 i)) (by omega)) (.cons (congrArg (fun n => some (Value.slice _ n _)) (by first | rfl | (show 0 + x.length = x.length; omega))) (.cons rfl .nil))) ?_ ?_ ?_
        · exact (fun w hw => hw)
        · exact (by exact ⟨by omega, rfl, by omega, rfl, List.mem_cons_self⟩)
        rintro ⟨k, s, p, pc, L⟩ ⟨hk, hsl, hsc, hF, hL⟩
        show V _ _ _ (L ++ [⟨some ⟨b4, 0, none⟩, [.slice a xss.length c, .slice a1 ws.length c1, .slice a2 gs.length c2], 3, 30⟩]) ([(3, .int .i64 (rn - (k : Int))), (11, .slice p s.1.length pc), (12, .int .i64 (s.2 : Int))] ++ [(2, _), (4, _)]) _ _
        refine V.seq ?_
        refine V.seq ?_
        refine V.region ?_
        refine VL.r (.inl rfl) rfl (by decide) (yr_move rfl rfl) ?_
        refine VL.r (.inl rfl) rfl (by decide) (yr_icmp rfl (.inr (.inr (.inr (.inr (.inl rfl))))) rfl rfl) ?_
        refine VL.nil ?_
        refine VE.then_wp ?_
        refine V.cond rfl (fun h6 => ?_) (fun h6 => ?_)
        · skip
          replace h6 := ic_gtr h6
          refine V.skip ?_
          refine VE.then_wp ?_
          refine V.seq ?_
          refine V.block ?_
          refine V.seq ?_
          refine V.region ?_
          refine VL.r (.inl rfl) rfl (by decide) (yr_move rfl rfl) ?_
          refine VL.r (.inl rfl) rfl (by decide) (yr_assign rfl rfl) ?_
          refine VL.nil ?_
          refine VE.then_wp ?_
          refine V.seq ?_
          refine V.seq ?_
          refine V.region ?_
          refine VL.r (.inl rfl) rfl (by decide) (yr_move rfl rfl) ?_
          refine VL.r (.inl rfl) rfl (by decide) (yr_len rfl Try.underlying23 rfl) ?_
          refine VL.r (.inl rfl) rfl (by decide) (yr_move (u := .int .i64 0) rfl rfl) ?_
          refine VL.nil ?_
          refine VE.then_wp ?_
          refine V.block ?_
          refine V.loopc (G := Nat × (Option Addr) × Nat × (List Ent)) [(2, _), (3, _), (4, _), (13, _), (40, _)] (fun ⟨j, p1, q1, L1⟩ => j ≤ s.1.length ∧ (⟨p1, fl (impJ (fun y => sqK xss ws gs y xss.length) unit s j).1, q1 * 1, 27⟩ : Ent) ∈ L1 ∧ (⟨p, fl s.1, pc * 1, 27⟩ : Ent) ∈ L1) (fun ⟨j, p1, q1, L1⟩ => (L1 ++ [⟨some ⟨b4, 0, none⟩, [.slice a xss.length c, .slice a1 ws.length c1, .slice a2 gs.length c2], 3, 30⟩])) (fun ⟨j, p1, q1, L1⟩ => [(11, .slice p1 (impJ (fun y => sqK xss ws gs y xss.length) unit s j).1.length q1), (12, .int .i64 ((impJ (fun y => sqK xss ws gs y xss.length) unit s j).2 : Int)), (41, .int .i64 (j : Int))]) (fun ⟨j, p1, q1, L1⟩ => s.1.length - j) (0, p, pc, L) (.cons rfl (.cons rfl (.cons rfl (.cons rfl (.cons rfl .nil))))) (.cons rfl (.cons rfl (.cons rfl .nil))) ?_ ?_ ?_
          · exact (fun w hw => hw)
          · exact (by exact ⟨by omega, hL, hL⟩)
          rintro ⟨j, p1, q1, L1⟩ ⟨hj, hC, hB0⟩
          show V _ _ _ (L1 ++ [⟨some ⟨b4, 0, none⟩, [.slice a xss.length c, .slice a1 ws.length c1, .slice a2 gs.length c2], 3, 30⟩]) ([(11, .slice p1 (impJ (fun y => sqK xss ws gs y xss.length) unit s j).1.length q1), (12, .int .i64 ((impJ (fun y => sqK xss ws gs y xss.length) unit s j).2 : Int)), (41, .int .i64 (j : Int))] ++ [(2, _), (3, _), (4, _), (13, _), (40, _)]) _ _
          have hJl : (impJ (fun y => sqK xss ws gs y xss.length) unit s j).1.length = x.length := ((impJ_facts (fun y => sqK xss ws gs y xss.length) unit s j).1).trans hsl
          have hJg : (impJ (fun y => sqK xss ws gs y xss.length) unit s j).1.getD j 0 = s.1.getD j 0 := (impJ_facts (fun y => sqK xss ws gs y xss.length) unit s j).2.1 j (Nat.le_refl _)
          have hJc : (impJ (fun y => sqK xss ws gs y xss.length) unit s j).2 ≤ s.2 + j := (impJ_facts (fun y => sqK xss ws gs y xss.length) unit s j).2.2.2
          have hJm : s.2 ≤ (impJ (fun y => sqK xss ws gs y xss.length) unit s j).2 := (impJ_facts (fun y => sqK xss ws gs y xss.length) unit s j).2.2.1
          have hfJ : fitsD xss ws gs (impJ (fun y => sqK xss ws gs y xss.length) unit s j).1 = true := by rw [fits_congr hJl]; exact hfit
          have hfS : ∀ v, fitsD xss ws gs ((impJ (fun y => sqK xss ws gs y xss.length) unit s j).1.set j v) = true := fun v => (fits_congr (x := x) (by rw [List.length_set]; exact hJl)).trans hfit
          refine V.seq ?_
          refine V.region ?_
          refine VL.r (.inl rfl) rfl (by decide) (yr_icmp rfl (.inr (.inr (.inl rfl))) rfl rfl) ?_
          refine VL.nil ?_
          refine VE.then_wp ?_
          refine V.seq ?_
          refine V.cond rfl (fun h7 => ?_) (fun h7 => ?_)
          · skip
            replace h7 := ic_lss h7
            refine V.skip ?_
            refine VE.then_wp ?_
            refine V.seq ?_
            refine V.block ?_
            refine V.seq ?_
            refine V.region ?_
            refine VL.r (.inl rfl) rfl (by decide) (yr_move rfl rfl) ?_
            refine VL.r (.inl rfl) rfl (by decide) (yr_assign rfl rfl) ?_
            refine VL.nil ?_
            refine VE.then_wp ?_
            refine V.seq ?_
            refine V.region ?_
            refine VL.r (.inl rfl) rfl (by decide) (yr_move rfl rfl) ?_
            refine VL.r (.inl rfl) rfl (by decide) (yr_move rfl rfl) ?_
            refine VL.r (.inl rfl) rfl (by decide) (yr_move rfl rfl) ?_
            refine VL.r (.inl rfl) rfl (by decide) (yr_move rfl rfl) ?_
            refine VL.q (.inl rfl) rfl (by decide) (yq_idx (k := j) rfl Try.underlying23 sz27_Imp rfl rfl (by first | exact Sees.root (by assumption) | exact Sees.own (by repeat (first | exact List.mem_cons_self | exact List.mem_append_left _ (by assumption) | apply List.mem_cons_of_mem | apply List.mem_append_right)) | exact Sees.root (hR _ (by omega)) | exact Sees.own (RowsIn.mem (by repeat (first | exact RowsIn.here | exact RowsIn.last | apply RowsIn.there | apply RowsIn.thereS)) _ (by omega))) (by first | rfl | omega | (push_cast; rfl) | (push_cast; omega)) (by exact fl_length _) (by omega)) ?_
            refine VL.q (.inl rfl) rfl (by decide) (yq_loadF rfl fb27_Imp rfl (by first | exact Sees.root (by assumption) | exact Sees.own (by repeat (first | exact List.mem_cons_self | exact List.mem_append_left _ (by assumption) | apply List.mem_cons_of_mem | apply List.mem_append_right)) | exact Sees.root (hR _ (by omega)) | exact Sees.own (RowsIn.mem (by repeat (first | exact RowsIn.here | exact RowsIn.last | apply RowsIn.there | apply RowsIn.thereS)) _ (by omega))) (by omega)) ?_
            refine VL.r (.inl rfl) rfl (by decide) (yr_move rfl rfl) ?_
            refine VL.r (.inl rfl) rfl (by decide) (yr_float rfl (.inl rfl) rfl rfl) ?_
            refine VL.new1 (.inl rfl) rfl (by decide) (yn_callf rfl known111_Imp (.cons rfl (.cons rfl (.cons rfl .nil))) (fun w hw => (c_l07With (xs := (impJ (fun y => sqK xss ws gs y xss.length) unit s j).1) (j := j) (by first | exact Sees.root (by assumption) w hw | exact Sees.own (by repeat (first | exact List.mem_cons_self | exact List.mem_append_left _ (by assumption) | apply List.mem_cons_of_mem | apply List.mem_append_right)) w hw) (by omega) (by omega)))) ?_
            rintro ⟨a52, c52⟩
            refine VL.r (.inl rfl) rfl (by decide) (yr_assign rfl rfl) ?_
            refine VL.nil ?_
            refine VE.then_wp ?_
            refine V.seq ?_
            refine V.region ?_
            refine VL.r (.inl rfl) rfl (by decide) (yr_move rfl rfl) ?_
            refine VL.r (.inl rfl) rfl (by decide) (yr_move rfl rfl) ?_
            refine VL.r (.inl rfl) rfl (by decide) (yr_move rfl rfl) ?_
            refine VL.r (.inl rfl) rfl (by decide) (yr_move rfl rfl) ?_
            refine VL.q (.inl rfl) rfl (by decide) (yq_idx (k := j) rfl Try.underlying23 sz27_Imp rfl rfl (by first | exact Sees.root (by assumption) | exact Sees.own (by repeat (first | exact List.mem_cons_self | exact List.mem_append_left _ (by assumption) | apply List.mem_cons_of_mem | apply List.mem_append_right)) | exact Sees.root (hR _ (by omega)) | exact Sees.own (RowsIn.mem (by repeat (first | exact RowsIn.here | exact RowsIn.last | apply RowsIn.there | apply RowsIn.thereS)) _ (by omega))) (by first | rfl | omega | (push_cast; rfl) | (push_cast; omega)) (by exact fl_length _) (by omega)) ?_
            refine VL.q (.inl rfl) rfl (by decide) (yq_loadF rfl fb27_Imp rfl (by first | exact Sees.root (by assumption) | exact Sees.own (by repeat (first | exact List.mem_cons_self | exact List.mem_append_left _ (by assumption) | apply List.mem_cons_of_mem | apply List.mem_append_right)) | exact Sees.root (hR _ (by omega)) | exact Sees.own (RowsIn.mem (by repeat (first | exact RowsIn.here | exact RowsIn.last | apply RowsIn.there | apply RowsIn.thereS)) _ (by omega))) (by omega)) ?_
            refine VL.r (.inl rfl) rfl (by decide) (yr_move rfl rfl) ?_
            refine VL.r (.inl rfl) rfl (by decide) (yr_float rfl (.inr (.inl rfl)) rfl rfl) ?_
            refine VL.new1 (.inl rfl) rfl (by decide) (yn_callf rfl known111_Imp (.cons rfl (.cons rfl (.cons rfl .nil))) (fun w hw => (c_l07With (xs := (impJ (fun y => sqK xss ws gs y xss.length) unit s j).1) (j := j) (by first | exact Sees.root (by assumption) w hw | exact Sees.own (by repeat (first | exact List.mem_cons_self | exact List.mem_append_left _ (by assumption) | apply List.mem_cons_of_mem | apply List.mem_append_right)) w hw) (by omega) (by omega)))) ?_
            rintro ⟨a61, c61⟩
            refine VL.r (.inl rfl) rfl (by decide) (yr_assign rfl rfl) ?_
            refine VL.nil ?_
            refine VE.then_wp ?_
            refine V.seq ?_
            refine V.region ?_
            refine VL.r (.inl rfl) rfl (by decide) (yr_move rfl rfl) ?_
            refine VL.q (.inl rfl) rfl (by decide) (yq_callf rfl known112_Imp (.cons rfl (.cons rfl .nil)) (fun w hw => (c_l07Square (x := (impJ (fun y => sqK xss ws gs y xss.length) unit s j).1) (by first | exact Sees.root (by assumption) w hw | exact Sees.own (by repeat (first | exact List.mem_cons_self | exact List.mem_append_left _ (by assumption) | apply List.mem_cons_of_mem | apply List.mem_append_right)) w hw) (by first | exact Sees.root (by assumption) w hw | exact Sees.own (by repeat (first | exact List.mem_cons_self | exact List.mem_append_left _ (by assumption) | apply List.mem_cons_of_mem | apply List.mem_append_right)) w hw) (by first | exact Rws.root (by assumption) hw | exact Rws.own (by repeat (first | exact RowsIn.here | exact RowsIn.last | apply RowsIn.there | apply RowsIn.thereS)) hw) (by first | exact Sees.root (by assumption) w hw | exact Sees.own (by repeat (first | exact List.mem_cons_self | exact List.mem_append_left _ (by assumption) | apply List.mem_cons_of_mem | apply List.mem_append_right)) w hw) (by first | exact Sees.root (by assumption) w hw | exact Sees.own (by repeat (first | exact List.mem_cons_self | exact List.mem_append_left _ (by assumption) | apply List.mem_cons_of_mem | apply List.mem_append_right)) w hw) (by first | exact Sees.root (by assumption) w hw | exact Sees.own (by repeat (first | exact List.mem_cons_self | exact List.mem_append_left _ (by assumption) | apply List.mem_cons_of_mem | apply List.mem_append_right)) w hw) (by omega) hfJ))) ?_
            refine VL.r (.inl rfl) rfl (by decide) (yr_assign rfl rfl) ?_
            refine VL.nil ?_
            refine VE.then_wp ?_
            refine V.seq ?_
            refine V.region ?_
            refine VL.r (.inl rfl) rfl (by decide) (yr_move rfl rfl) ?_
            refine VL.q (.inl rfl) rfl (by decide) (yq_callf rfl known112_Imp (.cons rfl (.cons rfl .nil)) (fun w hw => (c_l07Square (x := (impJ (fun y => sqK xss ws gs y xss.length) unit s j).1.set j _) (by first | exact Sees.root (by assumption) w hw | exact Sees.own (by repeat (first | exact List.mem_cons_self | exact List.mem_append_left _ (by assumption) | apply List.mem_cons_of_mem | apply List.mem_append_right)) w hw) (by first | exact Sees.root (by assumption) w hw | exact Sees.own (by repeat (first | exact List.mem_cons_self | exact List.mem_append_left _ (by assumption) | apply List.mem_cons_of_mem | apply List.mem_append_right)) w hw) (by first | exact Rws.root (by assumption) hw | exact Rws.own (by repeat (first | exact RowsIn.here | exact RowsIn.last | apply RowsIn.there | apply RowsIn.thereS)) hw) (by first | exact Sees.root (by assumption) w hw | exact Sees.own (by repeat (first | exact List.mem_cons_self | exact List.mem_append_left _ (by assumption) | apply List.mem_cons_of_mem | apply List.mem_append_right)) w hw) (by first | exact Sees.root (by assumption) w hw | exact Sees.own (by repeat (first | exact List.mem_cons_self | exact List.mem_append_left _ (by assumption) | apply List.mem_cons_of_mem | apply List.mem_append_right)) w hw) (by first | exact Sees.root (by assumption) w hw | exact Sees.own (by repeat (first | exact List.mem_cons_self | exact List.mem_append_left _ (by assumption) | apply List.mem_cons_of_mem | apply List.mem_append_right)) w hw) (by omega) (hfS _)))) ?_
            refine VL.r (.inl rfl) rfl (by decide) (yr_move rfl rfl) ?_
            refine VL.r (.inl rfl) rfl (by decide) (yr_fcmp rfl (.inr (.inr (.inl rfl))) rfl rfl) ?_
            refine VL.nil ?_
            refine VE.then_wp ?_
            refine V.cond rfl (fun h8 => ?_) (fun h8 => ?_)
            · skip
              refine V.seq ?_
              refine V.region ?_
              refine VL.r (.inl rfl) rfl (by decide) (yr_move rfl rfl) ?_
              refine VL.r (.inl rfl) rfl (by decide) (yr_assign rfl rfl) ?_
              refine VL.nil ?_
              refine VE.then_wp ?_
              refine V.region ?_
              refine VL.r (.inl rfl) rfl (by decide) (yr_move rfl rfl) ?_
              refine VL.r (.inl rfl) rfl (by decide) (yr_int rfl rfl rfl (.inl ⟨rfl, wrap_in (by omega)⟩)) ?_
              refine VL.r (.inl rfl) rfl (by decide) (yr_assign rfl rfl) ?_
              refine VL.nil ?_
              refine VE.block_normal ?_
              refine VE.then_wp ?_
              refine V.region ?_
              refine VL.r (.inl rfl) rfl (by decide) (yr_int rfl rfl rfl (.inl ⟨rfl, wrap_in (by omega)⟩)) ?_
              refine VL.r (.inl rfl) rfl (by decide) (yr_move rfl rfl) ?_
              refine VL.nil ?_
              refine VE.round (j + 1, a52, c52, ⟨a52, fl ((impJ (fun y => sqK xss ws gs y xss.length) unit s j).1.set j (fop .add .f32 ((impJ (fun y => sqK xss ws gs y xss.length) unit s j).1.getD j 0) unit)), c52 * 1, 27⟩ :: L1) ?_ ?_ ?_ ?_ ?_
              · exact (.cons (congrArg (fun n => some (Value.slice _ n _)) (by first | (rw [impJ, impN_up (by assumption)]) | (rw [impJ, impN_down (by assumption) (by assumption)]) | (rw [impJ, impN_no (by assumption) (by assumption)]))) (.cons (congrArg (fun i => some (Value.int .i64 i)) (by first | (rw [impJ, impN_up (by assumption)] <;> rfl) | (rw [impJ, impN_down (by assumption) (by assumption)] <;> rfl) | (rw [impJ, impN_no (by assumption) (by assumption)] <;> rfl))) (.cons rfl .nil)))
              · exact (.cons rfl (.cons rfl (.cons rfl (.cons rfl (.cons rfl .nil)))))
              · exact (fun w hw => hw.sub (List.sublist_cons_self _ _))
              · exact ⟨by omega, (by rw [impJ, impN_up (by assumption)]; exact List.mem_cons_self), List.mem_cons_of_mem _ hB0⟩
              · (try dsimp only); omega
            · skip
              refine V.seq ?_
              refine V.region ?_
              refine VL.r (.inl rfl) rfl (by decide) (yr_move rfl rfl) ?_
              refine VL.q (.inl rfl) rfl (by decide) (yq_callf rfl known112_Imp (.cons rfl (.cons rfl .nil)) (fun w hw => (c_l07Square (x := (impJ (fun y => sqK xss ws gs y xss.length) unit s j).1.set j _) (by first | exact Sees.root (by assumption) w hw | exact Sees.own (by repeat (first | exact List.mem_cons_self | exact List.mem_append_left _ (by assumption) | apply List.mem_cons_of_mem | apply List.mem_append_right)) w hw) (by first | exact Sees.root (by assumption) w hw | exact Sees.own (by repeat (first | exact List.mem_cons_self | exact List.mem_append_left _ (by assumption) | apply List.mem_cons_of_mem | apply List.mem_append_right)) w hw) (by first | exact Rws.root (by assumption) hw | exact Rws.own (by repeat (first | exact RowsIn.here | exact RowsIn.last | apply RowsIn.there | apply RowsIn.thereS)) hw) (by first | exact Sees.root (by assumption) w hw | exact Sees.own (by repeat (first | exact List.mem_cons_self | exact List.mem_append_left _ (by assumption) | apply List.mem_cons_of_mem | apply List.mem_append_right)) w hw) (by first | exact Sees.root (by assumption) w hw | exact Sees.own (by repeat (first | exact List.mem_cons_self | exact List.mem_append_left _ (by assumption) | apply List.mem_cons_of_mem | apply List.mem_append_right)) w hw) (by first | exact Sees.root (by assumption) w hw | exact Sees.own (by repeat (first | exact List.mem_cons_self | exact List.mem_append_left _ (by assumption) | apply List.mem_cons_of_mem | apply List.mem_append_right)) w hw) (by omega) (hfS _)))) ?_
              refine VL.r (.inl rfl) rfl (by decide) (yr_move rfl rfl) ?_
              refine VL.r (.inl rfl) rfl (by decide) (yr_fcmp rfl (.inr (.inr (.inl rfl))) rfl rfl) ?_
              refine VL.nil ?_
              refine VE.then_wp ?_
              refine V.cond rfl (fun h9 => ?_) (fun h9 => ?_)
              · skip
                refine V.seq ?_
                refine V.region ?_
                refine VL.r (.inl rfl) rfl (by decide) (yr_move rfl rfl) ?_
                refine VL.r (.inl rfl) rfl (by decide) (yr_assign rfl rfl) ?_
                refine VL.nil ?_
                refine VE.then_wp ?_
                refine V.region ?_
                refine VL.r (.inl rfl) rfl (by decide) (yr_move rfl rfl) ?_
                refine VL.r (.inl rfl) rfl (by decide) (yr_int rfl rfl rfl (.inl ⟨rfl, wrap_in (by omega)⟩)) ?_
                refine VL.r (.inl rfl) rfl (by decide) (yr_assign rfl rfl) ?_
                refine VL.nil ?_
                refine VE.block_normal ?_
                refine VE.then_wp ?_
                refine V.region ?_
                refine VL.r (.inl rfl) rfl (by decide) (yr_int rfl rfl rfl (.inl ⟨rfl, wrap_in (by omega)⟩)) ?_
                refine VL.r (.inl rfl) rfl (by decide) (yr_move rfl rfl) ?_
                refine VL.nil ?_
                refine VE.round (j + 1, a61, c61, ⟨a61, fl ((impJ (fun y => sqK xss ws gs y xss.length) unit s j).1.set j (fop .sub .f32 ((impJ (fun y => sqK xss ws gs y xss.length) unit s j).1.getD j 0) unit)), c61 * 1, 27⟩ :: L1) ?_ ?_ ?_ ?_ ?_
                · exact (.cons (congrArg (fun n => some (Value.slice _ n _)) (by first | (rw [impJ, impN_up (by assumption)]) | (rw [impJ, impN_down (by assumption) (by assumption)]) | (rw [impJ, impN_no (by assumption) (by assumption)]))) (.cons (congrArg (fun i => some (Value.int .i64 i)) (by first | (rw [impJ, impN_up (by assumption)] <;> rfl) | (rw [impJ, impN_down (by assumption) (by assumption)] <;> rfl) | (rw [impJ, impN_no (by assumption) (by assumption)] <;> rfl))) (.cons rfl .nil)))
                · exact (.cons rfl (.cons rfl (.cons rfl (.cons rfl (.cons rfl .nil)))))
                · exact (fun w hw => hw.sub ((List.sublist_cons_self _ _).cons_cons _))
                · exact ⟨by omega, (by rw [impJ, impN_down (by assumption) (by assumption)]; exact List.mem_cons_self), List.mem_cons_of_mem _ hB0⟩
                · (try dsimp only); omega
              · skip
                refine V.skip ?_
                refine VE.block_normal ?_
                refine VE.then_wp ?_
                refine V.region ?_
                refine VL.r (.inl rfl) rfl (by decide) (yr_int rfl rfl rfl (.inl ⟨rfl, wrap_in (by omega)⟩)) ?_
                refine VL.r (.inl rfl) rfl (by decide) (yr_move rfl rfl) ?_
                refine VL.nil ?_
                refine VE.round (j + 1, p1, q1, L1) ?_ ?_ ?_ ?_ ?_
                · exact (.cons (congrArg (fun n => some (Value.slice _ n _)) (by first | (rw [impJ, impN_up (by assumption)]) | (rw [impJ, impN_down (by assumption) (by assumption)]) | (rw [impJ, impN_no (by assumption) (by assumption)]))) (.cons (congrArg (fun i => some (Value.int .i64 i)) (by first | (rw [impJ, impN_up (by assumption)] <;> rfl) | (rw [impJ, impN_down (by assumption) (by assumption)] <;> rfl) | (rw [impJ, impN_no (by assumption) (by assumption)] <;> rfl))) (.cons rfl .nil)))
                · exact (.cons rfl (.cons rfl (.cons rfl (.cons rfl (.cons rfl .nil)))))
                · exact (fun w hw => hw.sub ((List.sublist_cons_self _ _).trans (List.sublist_cons_self _ _)))
                · exact ⟨by omega, (by rw [impJ, impN_no (by assumption) (by assumption)]; exact hC), hB0⟩
                · (try dsimp only); omega
          · skip
            replace h7 := ic_lss' h7
            refine V.exit ?_
            refine VE.then_exit ?_
            refine VE.then_exit ?_
            refine VE.block_here ?_
            refine VE.then_wp ?_
            refine V.seq ?_
            refine V.region ?_
            refine VL.r (.inl rfl) rfl (by decide) (yr_move rfl rfl) ?_
            refine VL.r (.inl rfl) rfl (by decide) (yr_move rfl rfl) ?_
            refine VL.r (.inl rfl) rfl (by decide) (yr_icmp rfl (.inl rfl) rfl rfl) ?_
            refine VL.nil ?_
            refine VE.then_wp ?_
            refine V.cond rfl (fun h10 => ?_) (fun h10 => ?_)
            · skip
              replace h10 := ic_eql h10
              refine V.exit ?_
              refine VE.block_on rfl ?_
              refine VE.then_exit ?_
              refine VE.then_exit ?_
              refine VE.block_here ?_
              refine VE.then_wp ?_
              refine V.seq ?_
              refine V.region ?_
              refine VL.r (.inl rfl) rfl (by decide) (yr_move rfl rfl) ?_
              refine VL.r (.inl rfl) rfl (by decide) (yr_move rfl rfl) ?_
              refine VL.r (.inl rfl) rfl (by decide) (yr_assign rfl rfl) ?_
              refine VL.r (.inl rfl) rfl (by decide) (yr_assign rfl rfl) ?_
              refine VL.r (.inl rfl) rfl (by decide) (yr_assign (u := .bool true) rfl rfl) ?_
              refine VL.nil ?_
              refine VE.then_wp ?_
              refine V.ret ?_
              refine ret3 rfl rfl rfl rfl (by nofun) (by nofun) (by nofun) (fun w1 hw => ?_)
              first
                | (have hs : impOk xss ws gs x unit rn = true := impOk_yes hfit (by assumption) hrn
                   have he : s = impD xss ws gs x unit rn := by
                     rw [impD_yes hs, ← hF, show rn.toNat - k = 0 by omega]
                     rfl
                   rw [hs, ← he]
                   exact ⟨(p, pc), rfl, hw.below, fun e he => (by rw [List.mem_singleton] at he; subst he; exact hw.ents _ (List.mem_append_left _ (by assumption))), List.pairwise_singleton _ _⟩)
                | (have hs : impOk xss ws gs x unit rn = true := impOk_yes hfit (by assumption) hrn
                   obtain rfl : j = s.1.length := by omega
                   have he : (impJ (fun y => sqK xss ws gs y xss.length) unit s s.1.length) = impD xss ws gs x unit rn := by
                     rw [impD_yes hs]
                     exact impF_stop (by omega) hF (by omega)
                   rw [hs, ← he]
                   exact ⟨(p1, q1), rfl, hw.below, fun e he => (by rw [List.mem_singleton] at he; subst he; exact hw.ents _ (List.mem_append_left _ (by assumption))), List.pairwise_singleton _ _⟩)
                | (have hs : impOk xss ws gs x unit rn = false := by first | exact impOk_no1 (by assumption) | exact impOk_no2 (by assumption) | exact impOk_no3 (by assumption)
                   exact ⟨(none, 0), by rw [impD_no hs, hs]; rfl, hw.below, by rw [impD_no hs]; simp [fl, Ent.at], List.pairwise_singleton _ _⟩)
            · skip
              replace h10 := ic_eql' h10
              refine V.skip ?_
              refine VE.block_normal ?_
              refine VE.then_wp ?_
              refine V.region ?_
              refine VL.r (.inl rfl) rfl (by decide) (yr_move rfl rfl) ?_
              refine VL.r (.inl rfl) rfl (by decide) (yr_int rfl rfl rfl (.inr (.inl ⟨rfl, wrap_in (by omega)⟩))) ?_
              refine VL.r (.inl rfl) rfl (by decide) (yr_assign rfl rfl) ?_
              refine VL.nil ?_
              refine VE.round (k + 1, impJ (fun y => sqK xss ws gs y xss.length) unit s j, p1, q1, L1) ?_ ?_ ?_ ?_ ?_
              · exact (.cons (congrArg (fun i => some (Value.int .i64 i)) (by omega)) (.cons rfl (.cons rfl .nil)))
              · exact (.cons rfl (.cons rfl .nil))
              · exact (fun w hw => hw)
              · obtain rfl : j = s.1.length := by omega
                exact ⟨by omega, hJl, by omega, impF_go (by omega) hF (by omega), hC⟩
              · (try dsimp only); omega
        · skip
          replace h6 := ic_gtr' h6
          refine V.exit ?_
          refine VE.then_exit ?_
          refine VE.then_exit ?_
          refine VE.block_here ?_
          refine VE.then_wp ?_
          refine V.seq ?_
          refine V.region ?_
          refine VL.r (.inl rfl) rfl (by decide) (yr_move rfl rfl) ?_
          refine VL.r (.inl rfl) rfl (by decide) (yr_move rfl rfl) ?_
          refine VL.r (.inl rfl) rfl (by decide) (yr_assign rfl rfl) ?_
          refine VL.r (.inl rfl) rfl (by decide) (yr_assign rfl rfl) ?_
          refine VL.r (.inl rfl) rfl (by decide) (yr_assign (u := .bool true) rfl rfl) ?_
          refine VL.nil ?_
          refine VE.then_wp ?_
          refine V.ret ?_
          refine ret3 rfl rfl rfl rfl (by nofun) (by nofun) (by nofun) (fun w1 hw => ?_)
          first
            | (have hs : impOk xss ws gs x unit rn = true := impOk_yes hfit (by assumption) hrn
               have he : s = impD xss ws gs x unit rn := by
                 rw [impD_yes hs, ← hF, show rn.toNat - k = 0 by omega]
                 rfl
               rw [hs, ← he]
               exact ⟨(p, pc), rfl, hw.below, fun e he => (by rw [List.mem_singleton] at he; subst he; exact hw.ents _ (List.mem_append_left _ (by assumption))), List.pairwise_singleton _ _⟩)
            | (have hs : impOk xss ws gs x unit rn = true := impOk_yes hfit (by assumption) hrn
               obtain rfl : j = s.1.length := by omega
               have he : (impJ (fun y => sqK xss ws gs y xss.length) unit s s.1.length) = impD xss ws gs x unit rn := by
                 rw [impD_yes hs]
                 exact impF_stop (by omega) hF (by omega)
               rw [hs, ← he]
               exact ⟨(p1, q1), rfl, hw.below, fun e he => (by rw [List.mem_singleton] at he; subst he; exact hw.ents _ (List.mem_append_left _ (by assumption))), List.pairwise_singleton _ _⟩)
            | (have hs : impOk xss ws gs x unit rn = false := by first | exact impOk_no1 (by assumption) | exact impOk_no2 (by assumption) | exact impOk_no3 (by assumption)
               exact ⟨(none, 0), by rw [impD_no hs, hs]; rfl, hw.below, by rw [impD_no hs]; simp [fl, Ent.at], List.pairwise_singleton _ _⟩)

theorem c_implImp {w : World} {a a1 a2 : Option Addr} {c c1 c2 : Nat} {f : Nat → Option Addr × Nat} {xss : List (List Nat)} {ws gs : List Nat} {b : Option Addr} {d : Nat} {x : List Nat} {unit : Nat} {rn : Int} (hA : Cl w a (hd f xss)) (hR : Rws w f xss) (hW : Cl w a1 (fl ws)) (hG : Cl w a2 (fl gs)) (hB : Cl w b (fl x)) (hsz : bulk xss + ws.length + gs.length ≤ 1048576) : New Try.prog 53 [.agg #[.slice a xss.length c, .slice a1 ws.length c1, .slice a2 gs.length c2], .slice b x.length d, .float .f32 unit, .int .i64 rn] w (fun p : Option Addr × Nat => .tuple #[.slice p.1 (impD xss ws gs x unit rn).1.length p.2, .int .i64 ((impD xss ws gs x unit rn).2 : Nat), .bool (impOk xss ws gs x unit rn)]) (fun p => [⟨p.1, fl (impD xss ws gs x unit rn).1, p.2 * 1, 27⟩]) := by
  refine New.enter Try.func53 rfl Try.ntmps53 (Nat.le_of_ble_eq_true rfl) ?_
  have hr : ∀ i, i < xss.length → (xss.getD i []).length ≤ 1048576 := fun i hi => by have := bulk_row hi; omega
  have hxl : xss.length ≤ bulk xss := by unfold bulk; omega
  refine V.seq ?_
  refine V.region ?_
  refine VL.new1 (.inl rfl) rfl (by decide) (yn_box rfl rfl (.inr ⟨rfl, rfl⟩)) ?_
  intro b4
  refine VL.r (.inl rfl) rfl (by decide) (yr_assign (u := .slice none 0 0) rfl rfl) ?_
  refine VL.r (.inl rfl) rfl (by decide) (yr_assign (u := .int .i64 0) rfl rfl) ?_
  refine VL.r (.inl rfl) rfl (by decide) (yr_assign (u := .bool false) rfl rfl) ?_
  refine VL.nil ?_
  refine VE.then_wp ?_
  refine V.seq ?_
  refine V.seq ?_
  refine V.region ?_
  refine VL.q (.inl rfl) rfl (by decide) (yq_loadS rfl Try.underlying30 sz30_Imp rfl (by first | exact Sees.root (by assumption) | exact Sees.own (by repeat (first | exact List.mem_cons_self | exact List.mem_append_left _ (by assumption) | apply List.mem_cons_of_mem | apply List.mem_append_right)) | exact Sees.root (hR _ (by omega)) | exact Sees.own (RowsIn.mem (by repeat (first | exact RowsIn.here | exact RowsIn.last | apply RowsIn.there | apply RowsIn.thereS)) _ (by omega))) rfl rfl rfl) ?_
  refine VL.r (.inl rfl) rfl (by decide) (yr_move rfl rfl) ?_
  refine VL.q (.inl rfl) rfl (by decide) (yq_callf rfl known64_Imp (.cons rfl (.cons rfl .nil)) (fun w hw => (c_areCurrents (by first | exact Sees.root (by assumption) w hw | exact Sees.own (by repeat (first | exact List.mem_cons_self | exact List.mem_append_left _ (by assumption) | apply List.mem_cons_of_mem | apply List.mem_append_right)) w hw) (by first | exact Rws.root (by assumption) hw | exact Rws.own (by repeat (first | exact RowsIn.here | exact RowsIn.last | apply RowsIn.there | apply RowsIn.thereS)) hw) (by first | exact Sees.root (by assumption) w hw | exact Sees.own (by repeat (first | exact List.mem_cons_self | exact List.mem_append_left _ (by assumption) | apply List.mem_cons_of_mem | apply List.mem_append_right)) w hw) (by first | exact Sees.root (by assumption) w hw | exact Sees.own (by repeat (first | exact List.mem_cons_self | exact List.mem_append_left _ (by assumption) | apply List.mem_cons_of_mem | apply List.mem_append_right)) w hw) (by first | exact Sees.root (by assumption) w hw | exact Sees.own (by repeat (first | exact List.mem_cons_self | exact List.mem_append_left _ (by assumption) | apply List.mem_cons_of_mem | apply List.mem_append_right)) w hw) (by omega)))) ?_
  refine VL.r (.inl rfl) rfl (by decide) (yr_not rfl rfl) ?_
  refine VL.r (.inl rfl) rfl (by decide) (yr_move rfl rfl) ?_
  refine VX.split 23 _ rfl (fun h1 => ?_) (fun h1 => ?_)
  · skip
    replace h1 := bnot_t h1
    refine VL.no rfl rfl rfl rfl rfl (by decide) ?_
    refine VL.no rfl rfl rfl rfl rfl (by decide) ?_
    refine VL.no rfl rfl rfl rfl rfl (by decide) ?_
    refine VL.r (.inl rfl) rfl (by decide) (yr_pick_t (u := .bool true) rfl rfl rfl) ?_
    refine VL.r (.inl rfl) rfl (by decide) (yr_move rfl rfl) ?_
    refine VL.no rfl rfl rfl rfl rfl (by decide) ?_
    refine VL.no rfl rfl rfl rfl rfl (by decide) ?_
    refine VL.no rfl rfl rfl rfl rfl (by decide) ?_
    refine VL.r (.inl rfl) rfl (by decide) (yr_pick_t (u := .bool true) rfl rfl rfl) ?_
    refine VL.nil ?_
    refine VE.then_wp ?_
    refine V.condT rfl ?_
    refine V.seq ?_
    refine V.region ?_
    refine VL.r (.inl rfl) rfl (by decide) (yr_assign (u := .slice none 0 0) rfl rfl) ?_
    refine VL.r (.inl rfl) rfl (by decide) (yr_assign (u := .int .i64 0) rfl rfl) ?_
    refine VL.r (.inl rfl) rfl (by decide) (yr_assign (u := .bool false) rfl rfl) ?_
    refine VL.nil ?_
    refine VE.then_wp ?_
    refine V.ret ?_
    refine VE.then_ret ?_
    refine ret3 rfl rfl rfl rfl (by nofun) (by nofun) (by nofun) (fun w1 hw => ?_)
    first
      | (have hs : impOk xss ws gs x unit rn = true := impOk_yes hfit (by assumption) hrn
         have he : s = impD xss ws gs x unit rn := by
           rw [impD_yes hs, ← hF, show rn.toNat - k = 0 by omega]
           rfl
         rw [hs, ← he]
         exact ⟨(p, pc), rfl, hw.below, fun e he => (by rw [List.mem_singleton] at he; subst he; exact hw.ents _ (List.mem_append_left _ (by assumption))), List.pairwise_singleton _ _⟩)
      | (have hs : impOk xss ws gs x unit rn = true := impOk_yes hfit (by assumption) hrn
         obtain rfl : j = s.1.length := by omega
         have he : (impJ (fun y => sqK xss ws gs y xss.length) unit s s.1.length) = impD xss ws gs x unit rn := by
           rw [impD_yes hs]
           exact impF_stop (by omega) hF (by omega)
         rw [hs, ← he]
         exact ⟨(p1, q1), rfl, hw.below, fun e he => (by rw [List.mem_singleton] at he; subst he; exact hw.ents _ (List.mem_append_left _ (by assumption))), List.pairwise_singleton _ _⟩)
      | (have hs : impOk xss ws gs x unit rn = false := by first | exact impOk_no1 (by assumption) | exact impOk_no2 (by assumption) | exact impOk_no3 (by assumption)
         exact ⟨(none, 0), by rw [impD_no hs, hs]; rfl, hw.below, by rw [impD_no hs]; simp [fl, Ent.at], List.pairwise_singleton _ _⟩)
  · skip
    replace h1 := bnot_f h1
    have hfit := h1
    obtain ⟨⟨v1, v2, v3, v4, v5, v6, v7, v8⟩, hxn, hrow⟩ := fits_is hfit
    refine VL.r (.inr ⟨_, _, _, rfl, rfl, rfl⟩) rfl (by decide) (yr_move rfl rfl) ?_
    refine VL.q (.inr ⟨_, _, _, rfl, rfl, rfl⟩) rfl (by decide) (yq_callf rfl known113_Imp (.cons rfl .nil) (fun w hw => c_isLength _)) ?_
    refine VL.r (.inr ⟨_, _, _, rfl, rfl, rfl⟩) rfl (by decide) (yr_not rfl rfl) ?_
    refine VL.r (.inl rfl) rfl (by decide) (yr_pick_f rfl rfl rfl) ?_
    refine VL.r (.inl rfl) rfl (by decide) (yr_move rfl rfl) ?_
    refine VX.split 28 _ rfl (fun h3 => ?_) (fun h3 => ?_)
    · skip
      replace h3 := bnot_t h3
      refine VL.no rfl rfl rfl rfl rfl (by decide) ?_
      refine VL.no rfl rfl rfl rfl rfl (by decide) ?_
      refine VL.no rfl rfl rfl rfl rfl (by decide) ?_
      refine VL.r (.inl rfl) rfl (by decide) (yr_pick_t (u := .bool true) rfl rfl rfl) ?_
      refine VL.nil ?_
      refine VE.then_wp ?_
      refine V.condT rfl ?_
      refine V.seq ?_
      refine V.region ?_
      refine VL.r (.inl rfl) rfl (by decide) (yr_assign (u := .slice none 0 0) rfl rfl) ?_
      refine VL.r (.inl rfl) rfl (by decide) (yr_assign (u := .int .i64 0) rfl rfl) ?_
      refine VL.r (.inl rfl) rfl (by decide) (yr_assign (u := .bool false) rfl rfl) ?_
      refine VL.nil ?_
      refine VE.then_wp ?_
      refine V.ret ?_
      refine VE.then_ret ?_
      refine ret3 rfl rfl rfl rfl (by nofun) (by nofun) (by nofun) (fun w1 hw => ?_)
      first
        | (have hs : impOk xss ws gs x unit rn = true := impOk_yes hfit (by assumption) hrn
           have he : s = impD xss ws gs x unit rn := by
             rw [impD_yes hs, ← hF, show rn.toNat - k = 0 by omega]
             rfl
           rw [hs, ← he]
           exact ⟨(p, pc), rfl, hw.below, fun e he => (by rw [List.mem_singleton] at he; subst he; exact hw.ents _ (List.mem_append_left _ (by assumption))), List.pairwise_singleton _ _⟩)
        | (have hs : impOk xss ws gs x unit rn = true := impOk_yes hfit (by assumption) hrn
           obtain rfl : j = s.1.length := by omega
           have he : (impJ (fun y => sqK xss ws gs y xss.length) unit s s.1.length) = impD xss ws gs x unit rn := by
             rw [impD_yes hs]
             exact impF_stop (by omega) hF (by omega)
           rw [hs, ← he]
           exact ⟨(p1, q1), rfl, hw.below, fun e he => (by rw [List.mem_singleton] at he; subst he; exact hw.ents _ (List.mem_append_left _ (by assumption))), List.pairwise_singleton _ _⟩)
        | (have hs : impOk xss ws gs x unit rn = false := by first | exact impOk_no1 (by assumption) | exact impOk_no2 (by assumption) | exact impOk_no3 (by assumption)
           exact ⟨(none, 0), by rw [impD_no hs, hs]; rfl, hw.below, by rw [impD_no hs]; simp [fl, Ent.at], List.pairwise_singleton _ _⟩)
    · skip
      replace h3 := bnot_f h3
      refine VL.r (.inr ⟨_, _, _, rfl, rfl, rfl⟩) rfl (by decide) (yr_move rfl rfl) ?_
      refine VL.q (.inr ⟨_, _, _, rfl, rfl, rfl⟩) rfl (by decide) (yq_callf rfl known98_Imp (.cons rfl .nil) (fun w hw => c_isRounds)) ?_
      refine VL.r (.inr ⟨_, _, _, rfl, rfl, rfl⟩) rfl (by decide) (yr_not rfl rfl) ?_
      refine VL.r (.inl rfl) rfl (by decide) (yr_pick_f rfl rfl rfl) ?_
      refine VL.nil ?_
      refine VE.then_wp ?_
      refine V.cond rfl (fun h5 => ?_) (fun h5 => ?_)
      · skip
        replace h5 := bnot_t h5
        refine V.seq ?_
        refine V.region ?_
        refine VL.r (.inl rfl) rfl (by decide) (yr_assign (u := .slice none 0 0) rfl rfl) ?_
        refine VL.r (.inl rfl) rfl (by decide) (yr_assign (u := .int .i64 0) rfl rfl) ?_
        refine VL.r (.inl rfl) rfl (by decide) (yr_assign (u := .bool false) rfl rfl) ?_
        refine VL.nil ?_
        refine VE.then_wp ?_
        refine V.ret ?_
        refine VE.then_ret ?_
        refine ret3 rfl rfl rfl rfl (by nofun) (by nofun) (by nofun) (fun w1 hw => ?_)
        first
          | (have hs : impOk xss ws gs x unit rn = true := impOk_yes hfit (by assumption) hrn
             have he : s = impD xss ws gs x unit rn := by
               rw [impD_yes hs, ← hF, show rn.toNat - k = 0 by omega]
               rfl
             rw [hs, ← he]
             exact ⟨(p, pc), rfl, hw.below, fun e he => (by rw [List.mem_singleton] at he; subst he; exact hw.ents _ (List.mem_append_left _ (by assumption))), List.pairwise_singleton _ _⟩)
          | (have hs : impOk xss ws gs x unit rn = true := impOk_yes hfit (by assumption) hrn
             obtain rfl : j = s.1.length := by omega
             have he : (impJ (fun y => sqK xss ws gs y xss.length) unit s s.1.length) = impD xss ws gs x unit rn := by
               rw [impD_yes hs]
               exact impF_stop (by omega) hF (by omega)
             rw [hs, ← he]
             exact ⟨(p1, q1), rfl, hw.below, fun e he => (by rw [List.mem_singleton] at he; subst he; exact hw.ents _ (List.mem_append_left _ (by assumption))), List.pairwise_singleton _ _⟩)
          | (have hs : impOk xss ws gs x unit rn = false := by first | exact impOk_no1 (by assumption) | exact impOk_no2 (by assumption) | exact impOk_no3 (by assumption)
             exact ⟨(none, 0), by rw [impD_no hs, hs]; rfl, hw.below, by rw [impD_no hs]; simp [fl, Ent.at], List.pairwise_singleton _ _⟩)
      · skip
        replace h5 := bnot_f h5
        have hrn := of_decide_eq_true h5
        refine V.skip ?_
        refine VE.then_wp ?_
        refine V.seq ?_
        refine V.region ?_
        refine VL.r (.inl rfl) rfl (by decide) (yr_move rfl rfl) ?_
        refine VL.new1 (.inl rfl) rfl (by decide) (yn_callf rfl known99_Imp (.cons rfl .nil) (fun w hw => c_cloneF (by first | exact Sees.root (by assumption) w hw | exact Sees.own (by repeat (first | exact List.mem_cons_self | exact List.mem_append_left _ (by assumption) | apply List.mem_cons_of_mem | apply List.mem_append_right)) w hw) (by omega))) ?_
        rintro ⟨a34, c34⟩
        refine VL.r (.inl rfl) rfl (by decide) (yr_assign rfl rfl) ?_
        refine VL.nil ?_
        refine VE.then_wp ?_
        refine V.seq ?_
        refine V.region ?_
        refine VL.r (.inl rfl) rfl (by decide) (yr_assign (u := .int .i64 0) rfl rfl) ?_
        refine VL.nil ?_
        refine VE.then_wp ?_
        refine V.seq ?_
        refine V.seq ?_
        refine V.region ?_
        refine VL.r (.inl rfl) rfl (by decide) (yr_move rfl rfl) ?_
        refine VL.r (.inl rfl) rfl (by decide) (yr_move (u := .int .i64 0) rfl rfl) ?_
        refine VL.nil ?_
        refine VE.then_wp ?_
        refine V.block ?_
        refine V.loopc (G := Nat × (List Nat × Nat) × (Option Addr) × Nat × (List Ent)) [(2, _), (4, _), (35, _)] (fun ⟨k, s, p, pc, L⟩ => k ≤ rn.toNat ∧ s.1.length = x.length ∧ s.2 ≤ 8 * k ∧ impF (fun y => sqK xss ws gs y xss.length) unit s (rn.toNat - k) = impF (fun y => sqK xss ws gs y xss.length) unit (x, 0) rn.toNat ∧ (⟨p, fl s.1, pc * 1, 27⟩ : Ent) ∈ L) (fun ⟨k, s, p, pc, L⟩ => (L ++ [⟨some ⟨b4, 0, none⟩, [.slice a xss.length c, .slice a1 ws.length c1, .slice a2 gs.length c2], 3, 30⟩])) (fun ⟨k, s, p, pc, L⟩ => [(11, .slice p s.1.length pc), (12, .int .i64 (s.2 : Int)), (36, .int .i64 (k : Int))]) (fun ⟨k, s, p, pc, L⟩ => rn.toNat - k) (0, (x, 0), a34, c34, [⟨a34, fl x, c34 * 1, 27⟩]) (.cons rfl (.cons rfl (.cons rfl .nil))) (.cons (congrArg (fun n => some (Value.slice _ n _)) (by first | rfl | (show 0 + x.length = x.length; omega))) (.cons rfl (.cons (congrArg (fun i => some (Value.int .i64 i)) (by omega)) .nil))) ?_ ?_ ?_
        · exact (fun w hw => hw)
        · exact (by exact ⟨by omega, rfl, by omega, rfl, List.mem_cons_self⟩)
        rintro ⟨k, s, p, pc, L⟩ ⟨hk, hsl, hsc, hF, hL⟩
        show V _ _ _ (L ++ [⟨some ⟨b4, 0, none⟩, [.slice a xss.length c, .slice a1 ws.length c1, .slice a2 gs.length c2], 3, 30⟩]) ([(11, .slice p s.1.length pc), (12, .int .i64 (s.2 : Int)), (36, .int .i64 (k : Int))] ++ [(2, _), (4, _), (35, _)]) _ _
        refine V.seq ?_
        refine V.region ?_
        refine VL.r (.inl rfl) rfl (by decide) (yr_icmp rfl (.inr (.inr (.inl rfl))) rfl rfl) ?_
        refine VL.nil ?_
        refine VE.then_wp ?_
        refine V.seq ?_
        refine V.cond rfl (fun h6 => ?_) (fun h6 => ?_)
        · skip
          replace h6 := ic_lss h6
          refine V.skip ?_
          refine VE.then_wp ?_
          refine V.seq ?_
          refine V.block ?_
          refine V.seq ?_
          refine V.region ?_
          refine VL.r (.inl rfl) rfl (by decide) (yr_move rfl rfl) ?_
          refine VL.r (.inl rfl) rfl (by decide) (yr_assign rfl rfl) ?_
          refine VL.nil ?_
          refine VE.then_wp ?_
          refine V.seq ?_
          refine V.seq ?_
          refine V.region ?_
          refine VL.r (.inl rfl) rfl (by decide) (yr_move rfl rfl) ?_
          refine VL.r (.inl rfl) rfl (by decide) (yr_len rfl Try.underlying23 rfl) ?_
          refine VL.r (.inl rfl) rfl (by decide) (yr_move (u := .int .i64 0) rfl rfl) ?_
          refine VL.nil ?_
          refine VE.then_wp ?_
          refine V.block ?_
          refine V.loopc (G := Nat × (Option Addr) × Nat × (List Ent)) [(2, _), (4, _), (13, _), (35, _), (36, _), (39, _), (40, _)] (fun ⟨j, p1, q1, L1⟩ => j ≤ s.1.length ∧ (⟨p1, fl (impJ (fun y => sqK xss ws gs y xss.length) unit s j).1, q1 * 1, 27⟩ : Ent) ∈ L1 ∧ (⟨p, fl s.1, pc * 1, 27⟩ : Ent) ∈ L1) (fun ⟨j, p1, q1, L1⟩ => (L1 ++ [⟨some ⟨b4, 0, none⟩, [.slice a xss.length c, .slice a1 ws.length c1, .slice a2 gs.length c2], 3, 30⟩])) (fun ⟨j, p1, q1, L1⟩ => [(11, .slice p1 (impJ (fun y => sqK xss ws gs y xss.length) unit s j).1.length q1), (12, .int .i64 ((impJ (fun y => sqK xss ws gs y xss.length) unit s j).2 : Int)), (41, .int .i64 (j : Int))]) (fun ⟨j, p1, q1, L1⟩ => s.1.length - j) (0, p, pc, L) (.cons rfl (.cons rfl (.cons rfl (.cons rfl (.cons rfl (.cons rfl (.cons rfl .nil))))))) (.cons rfl (.cons rfl (.cons rfl .nil))) ?_ ?_ ?_
          · exact (fun w hw => hw)
          · exact (by exact ⟨by omega, hL, hL⟩)
          rintro ⟨j, p1, q1, L1⟩ ⟨hj, hC, hB0⟩
          show V _ _ _ (L1 ++ [⟨some ⟨b4, 0, none⟩, [.slice a xss.length c, .slice a1 ws.length c1, .slice a2 gs.length c2], 3, 30⟩]) ([(11, .slice p1 (impJ (fun y => sqK xss ws gs y xss.length) unit s j).1.length q1), (12, .int .i64 ((impJ (fun y => sqK xss ws gs y xss.length) unit s j).2 : Int)), (41, .int .i64 (j : Int))] ++ [(2, _), (4, _), (13, _), (35, _), (36, _), (39, _), (40, _)]) _ _
          have hJl : (impJ (fun y => sqK xss ws gs y xss.length) unit s j).1.length = x.length := ((impJ_facts (fun y => sqK xss ws gs y xss.length) unit s j).1).trans hsl
          have hJg : (impJ (fun y => sqK xss ws gs y xss.length) unit s j).1.getD j 0 = s.1.getD j 0 := (impJ_facts (fun y => sqK xss ws gs y xss.length) unit s j).2.1 j (Nat.le_refl _)
          have hJc : (impJ (fun y => sqK xss ws gs y xss.length) unit s j).2 ≤ s.2 + j := (impJ_facts (fun y => sqK xss ws gs y xss.length) unit s j).2.2.2
          have hJm : s.2 ≤ (impJ (fun y => sqK xss ws gs y xss.length) unit s j).2 := (impJ_facts (fun y => sqK xss ws gs y xss.length) unit s j).2.2.1
          have hfJ : fitsD xss ws gs (impJ (fun y => sqK xss ws gs y xss.length) unit s j).1 = true := by rw [fits_congr hJl]; exact hfit
          have hfS : ∀ v, fitsD xss ws gs ((impJ (fun y => sqK xss ws gs y xss.length) unit s j).1.set j v) = true := fun v => (fits_congr (x := x) (by rw [List.length_set]; exact hJl)).trans hfit
          refine V.seq ?_
          refine V.region ?_
          refine VL.r (.inl rfl) rfl (by decide) (yr_icmp rfl (.inr (.inr (.inl rfl))) rfl rfl) ?_
          refine VL.nil ?_
          refine VE.then_wp ?_
          refine V.seq ?_
          refine V.cond rfl (fun h7 => ?_) (fun h7 => ?_)
          · skip
            replace h7 := ic_lss h7
            refine V.skip ?_
            refine VE.then_wp ?_
            refine V.seq ?_
            refine V.block ?_
            refine V.seq ?_
            refine V.region ?_
            refine VL.r (.inl rfl) rfl (by decide) (yr_move rfl rfl) ?_
            refine VL.q (.inl rfl) rfl (by decide) (yq_idx (k := j) rfl Try.underlying23 sz27_Imp rfl rfl (by first | exact Sees.root (by assumption) | exact Sees.own (by repeat (first | exact List.mem_cons_self | exact List.mem_append_left _ (by assumption) | apply List.mem_cons_of_mem | apply List.mem_append_right)) | exact Sees.root (hR _ (by omega)) | exact Sees.own (RowsIn.mem (by repeat (first | exact RowsIn.here | exact RowsIn.last | apply RowsIn.there | apply RowsIn.thereS)) _ (by omega))) (by first | rfl | omega | (push_cast; rfl) | (push_cast; omega)) (by exact fl_length _) (by omega)) ?_
            refine VL.q (.inl rfl) rfl (by decide) (show YQ _ _ _ _ _ (.float .f32 ((impJ (fun y => sqK xss ws gs y xss.length) unit s j).1.getD j 0)) from by rw [hJg]; exact yq_loadF rfl fb27_Imp rfl (by first | exact Sees.root (by assumption) | exact Sees.own (by repeat (first | exact List.mem_cons_self | exact List.mem_append_left _ (by assumption) | apply List.mem_cons_of_mem | apply List.mem_append_right)) | exact Sees.root (hR _ (by omega)) | exact Sees.own (RowsIn.mem (by repeat (first | exact RowsIn.here | exact RowsIn.last | apply RowsIn.there | apply RowsIn.thereS)) _ (by omega))) (by omega)) ?_
            refine VL.r (.inl rfl) rfl (by decide) (yr_assign rfl rfl) ?_
            refine VL.r (.inl rfl) rfl (by decide) (yr_assign rfl rfl) ?_
            refine VL.nil ?_
            refine VE.then_wp ?_
            refine V.seq ?_
            refine V.region ?_
            refine VL.q (.inl rfl) rfl (by decide) (yq_loadS rfl Try.underlying30 sz30_Imp rfl (by first | exact Sees.root (by assumption) | exact Sees.own (by repeat (first | exact List.mem_cons_self | exact List.mem_append_left _ (by assumption) | apply List.mem_cons_of_mem | apply List.mem_append_right)) | exact Sees.root (hR _ (by omega)) | exact Sees.own (RowsIn.mem (by repeat (first | exact RowsIn.here | exact RowsIn.last | apply RowsIn.there | apply RowsIn.thereS)) _ (by omega))) rfl rfl rfl) ?_
            refine VL.r (.inl rfl) rfl (by decide) (yr_move rfl rfl) ?_
            refine VL.q (.inl rfl) rfl (by decide) (yq_callf rfl known114_Imp (.cons rfl (.cons rfl .nil)) (fun w hw => (c_square (x := (impJ (fun y => sqK xss ws gs y xss.length) unit s j).1) (by first | exact Sees.root (by assumption) w hw | exact Sees.own (by repeat (first | exact List.mem_cons_self | exact List.mem_append_left _ (by assumption) | apply List.mem_cons_of_mem | apply List.mem_append_right)) w hw) (by first | exact Rws.root (by assumption) hw | exact Rws.own (by repeat (first | exact RowsIn.here | exact RowsIn.last | apply RowsIn.there | apply RowsIn.thereS)) hw) (by first | exact Sees.root (by assumption) w hw | exact Sees.own (by repeat (first | exact List.mem_cons_self | exact List.mem_append_left _ (by assumption) | apply List.mem_cons_of_mem | apply List.mem_append_right)) w hw) (by first | exact Sees.root (by assumption) w hw | exact Sees.own (by repeat (first | exact List.mem_cons_self | exact List.mem_append_left _ (by assumption) | apply List.mem_cons_of_mem | apply List.mem_append_right)) w hw) (by first | exact Sees.root (by assumption) w hw | exact Sees.own (by repeat (first | exact List.mem_cons_self | exact List.mem_append_left _ (by assumption) | apply List.mem_cons_of_mem | apply List.mem_append_right)) w hw) (by omega) hfJ))) ?_
            refine VL.r (.inl rfl) rfl (by decide) (yr_assign rfl rfl) ?_
            refine VL.nil ?_
            refine VE.then_wp ?_
            refine V.seq ?_
            refine V.region ?_
            refine VL.r (.inl rfl) rfl (by decide) (yr_move rfl rfl) ?_
            refine VL.r (.inl rfl) rfl (by decide) (yr_move rfl rfl) ?_
            refine VL.r (.inl rfl) rfl (by decide) (yr_move rfl rfl) ?_
            refine VL.r (.inl rfl) rfl (by decide) (yr_move rfl rfl) ?_
            refine VL.r (.inl rfl) rfl (by decide) (yr_float rfl (.inl rfl) rfl rfl) ?_
            refine VL.new1 (.inl rfl) rfl (by decide) (yn_callf rfl known115_Imp (.cons rfl (.cons rfl (.cons rfl .nil))) (fun w hw => (c_with (xs := (impJ (fun y => sqK xss ws gs y xss.length) unit s j).1) (j := j) (by first | exact Sees.root (by assumption) w hw | exact Sees.own (by repeat (first | exact List.mem_cons_self | exact List.mem_append_left _ (by assumption) | apply List.mem_cons_of_mem | apply List.mem_append_right)) w hw) (by omega) (by omega)))) ?_
            rintro ⟨a54, c54⟩
            refine VL.r (.inl rfl) rfl (by decide) (yr_assign rfl rfl) ?_
            refine VL.nil ?_
            refine VE.then_wp ?_
            refine V.seq ?_
            refine V.region ?_
            refine VL.q (.inl rfl) rfl (by decide) (yq_loadS rfl Try.underlying30 sz30_Imp rfl (by first | exact Sees.root (by assumption) | exact Sees.own (by repeat (first | exact List.mem_cons_self | exact List.mem_append_left _ (by assumption) | apply List.mem_cons_of_mem | apply List.mem_append_right)) | exact Sees.root (hR _ (by omega)) | exact Sees.own (RowsIn.mem (by repeat (first | exact RowsIn.here | exact RowsIn.last | apply RowsIn.there | apply RowsIn.thereS)) _ (by omega))) rfl rfl rfl) ?_
            refine VL.r (.inl rfl) rfl (by decide) (yr_move rfl rfl) ?_
            refine VL.q (.inl rfl) rfl (by decide) (yq_callf rfl known114_Imp (.cons rfl (.cons rfl .nil)) (fun w hw => (c_square (x := (impJ (fun y => sqK xss ws gs y xss.length) unit s j).1.set j _) (by first | exact Sees.root (by assumption) w hw | exact Sees.own (by repeat (first | exact List.mem_cons_self | exact List.mem_append_left _ (by assumption) | apply List.mem_cons_of_mem | apply List.mem_append_right)) w hw) (by first | exact Rws.root (by assumption) hw | exact Rws.own (by repeat (first | exact RowsIn.here | exact RowsIn.last | apply RowsIn.there | apply RowsIn.thereS)) hw) (by first | exact Sees.root (by assumption) w hw | exact Sees.own (by repeat (first | exact List.mem_cons_self | exact List.mem_append_left _ (by assumption) | apply List.mem_cons_of_mem | apply List.mem_append_right)) w hw) (by first | exact Sees.root (by assumption) w hw | exact Sees.own (by repeat (first | exact List.mem_cons_self | exact List.mem_append_left _ (by assumption) | apply List.mem_cons_of_mem | apply List.mem_append_right)) w hw) (by first | exact Sees.root (by assumption) w hw | exact Sees.own (by repeat (first | exact List.mem_cons_self | exact List.mem_append_left _ (by assumption) | apply List.mem_cons_of_mem | apply List.mem_append_right)) w hw) (by omega) (hfS _)))) ?_
            refine VL.r (.inl rfl) rfl (by decide) (yr_move rfl rfl) ?_
            refine VL.r (.inl rfl) rfl (by decide) (yr_fcmp rfl (.inr (.inr (.inl rfl))) rfl rfl) ?_
            refine VL.nil ?_
            refine VE.then_wp ?_
            refine V.cond rfl (fun h8 => ?_) (fun h8 => ?_)
            · skip
              refine V.seq ?_
              refine V.region ?_
              refine VL.r (.inl rfl) rfl (by decide) (yr_move rfl rfl) ?_
              refine VL.r (.inl rfl) rfl (by decide) (yr_assign rfl rfl) ?_
              refine VL.nil ?_
              refine VE.then_wp ?_
              refine V.region ?_
              refine VL.r (.inl rfl) rfl (by decide) (yr_move rfl rfl) ?_
              refine VL.r (.inl rfl) rfl (by decide) (yr_int rfl rfl rfl (.inl ⟨rfl, wrap_in (by omega)⟩)) ?_
              refine VL.r (.inl rfl) rfl (by decide) (yr_assign rfl rfl) ?_
              refine VL.nil ?_
              refine VE.block_normal ?_
              refine VE.then_wp ?_
              refine V.region ?_
              refine VL.r (.inl rfl) rfl (by decide) (yr_int rfl rfl rfl (.inl ⟨rfl, wrap_in (by omega)⟩)) ?_
              refine VL.r (.inl rfl) rfl (by decide) (yr_move rfl rfl) ?_
              refine VL.nil ?_
              refine VE.round (j + 1, a54, c54, ⟨a54, fl ((impJ (fun y => sqK xss ws gs y xss.length) unit s j).1.set j (fop .add .f32 ((impJ (fun y => sqK xss ws gs y xss.length) unit s j).1.getD j 0) unit)), c54 * 1, 27⟩ :: L1) ?_ ?_ ?_ ?_ ?_
              · exact (.cons (congrArg (fun n => some (Value.slice _ n _)) (by first | (rw [impJ, impN_up (by assumption)]) | (rw [impJ, impN_down (by assumption) (by assumption)]) | (rw [impJ, impN_no (by assumption) (by assumption)]))) (.cons (congrArg (fun i => some (Value.int .i64 i)) (by first | (rw [impJ, impN_up (by assumption)] <;> rfl) | (rw [impJ, impN_down (by assumption) (by assumption)] <;> rfl) | (rw [impJ, impN_no (by assumption) (by assumption)] <;> rfl))) (.cons rfl .nil)))
              · exact (.cons rfl (.cons rfl (.cons rfl (.cons rfl (.cons rfl (.cons rfl (.cons rfl .nil)))))))
              · exact (fun w hw => hw)
              · exact ⟨by omega, (by rw [impJ, impN_up (by assumption)]; exact List.mem_cons_self), List.mem_cons_of_mem _ hB0⟩
              · (try dsimp only); omega
            · skip
              refine V.seq ?_
              refine V.region ?_
              refine VL.r (.inl rfl) rfl (by decide) (yr_move rfl rfl) ?_
              refine VL.r (.inl rfl) rfl (by decide) (yr_move rfl rfl) ?_
              refine VL.r (.inl rfl) rfl (by decide) (yr_move rfl rfl) ?_
              refine VL.r (.inl rfl) rfl (by decide) (yr_move rfl rfl) ?_
              refine VL.r (.inl rfl) rfl (by decide) (yr_float rfl (.inr (.inl rfl)) rfl rfl) ?_
              refine VL.new1 (.inl rfl) rfl (by decide) (yn_callf rfl known115_Imp (.cons rfl (.cons rfl (.cons rfl .nil))) (fun w hw => (c_with (xs := (impJ (fun y => sqK xss ws gs y xss.length) unit s j).1) (j := j) (by first | exact Sees.root (by assumption) w hw | exact Sees.own (by repeat (first | exact List.mem_cons_self | exact List.mem_append_left _ (by assumption) | apply List.mem_cons_of_mem | apply List.mem_append_right)) w hw) (by omega) (by omega)))) ?_
              rintro ⟨a68, c68⟩
              refine VL.r (.inl rfl) rfl (by decide) (yr_assign rfl rfl) ?_
              refine VL.nil ?_
              refine VE.then_wp ?_
              refine V.seq ?_
              refine V.region ?_
              refine VL.q (.inl rfl) rfl (by decide) (yq_loadS rfl Try.underlying30 sz30_Imp rfl (by first | exact Sees.root (by assumption) | exact Sees.own (by repeat (first | exact List.mem_cons_self | exact List.mem_append_left _ (by assumption) | apply List.mem_cons_of_mem | apply List.mem_append_right)) | exact Sees.root (hR _ (by omega)) | exact Sees.own (RowsIn.mem (by repeat (first | exact RowsIn.here | exact RowsIn.last | apply RowsIn.there | apply RowsIn.thereS)) _ (by omega))) rfl rfl rfl) ?_
              refine VL.r (.inl rfl) rfl (by decide) (yr_move rfl rfl) ?_
              refine VL.q (.inl rfl) rfl (by decide) (yq_callf rfl known114_Imp (.cons rfl (.cons rfl .nil)) (fun w hw => (c_square (x := (impJ (fun y => sqK xss ws gs y xss.length) unit s j).1.set j _) (by first | exact Sees.root (by assumption) w hw | exact Sees.own (by repeat (first | exact List.mem_cons_self | exact List.mem_append_left _ (by assumption) | apply List.mem_cons_of_mem | apply List.mem_append_right)) w hw) (by first | exact Rws.root (by assumption) hw | exact Rws.own (by repeat (first | exact RowsIn.here | exact RowsIn.last | apply RowsIn.there | apply RowsIn.thereS)) hw) (by first | exact Sees.root (by assumption) w hw | exact Sees.own (by repeat (first | exact List.mem_cons_self | exact List.mem_append_left _ (by assumption) | apply List.mem_cons_of_mem | apply List.mem_append_right)) w hw) (by first | exact Sees.root (by assumption) w hw | exact Sees.own (by repeat (first | exact List.mem_cons_self | exact List.mem_append_left _ (by assumption) | apply List.mem_cons_of_mem | apply List.mem_append_right)) w hw) (by first | exact Sees.root (by assumption) w hw | exact Sees.own (by repeat (first | exact List.mem_cons_self | exact List.mem_append_left _ (by assumption) | apply List.mem_cons_of_mem | apply List.mem_append_right)) w hw) (by omega) (hfS _)))) ?_
              refine VL.r (.inl rfl) rfl (by decide) (yr_move rfl rfl) ?_
              refine VL.r (.inl rfl) rfl (by decide) (yr_fcmp rfl (.inr (.inr (.inl rfl))) rfl rfl) ?_
              refine VL.nil ?_
              refine VE.then_wp ?_
              refine V.cond rfl (fun h9 => ?_) (fun h9 => ?_)
              · skip
                refine V.seq ?_
                refine V.region ?_
                refine VL.r (.inl rfl) rfl (by decide) (yr_move rfl rfl) ?_
                refine VL.r (.inl rfl) rfl (by decide) (yr_assign rfl rfl) ?_
                refine VL.nil ?_
                refine VE.then_wp ?_
                refine V.region ?_
                refine VL.r (.inl rfl) rfl (by decide) (yr_move rfl rfl) ?_
                refine VL.r (.inl rfl) rfl (by decide) (yr_int rfl rfl rfl (.inl ⟨rfl, wrap_in (by omega)⟩)) ?_
                refine VL.r (.inl rfl) rfl (by decide) (yr_assign rfl rfl) ?_
                refine VL.nil ?_
                refine VE.block_normal ?_
                refine VE.then_wp ?_
                refine V.region ?_
                refine VL.r (.inl rfl) rfl (by decide) (yr_int rfl rfl rfl (.inl ⟨rfl, wrap_in (by omega)⟩)) ?_
                refine VL.r (.inl rfl) rfl (by decide) (yr_move rfl rfl) ?_
                refine VL.nil ?_
                refine VE.round (j + 1, a68, c68, ⟨a68, fl ((impJ (fun y => sqK xss ws gs y xss.length) unit s j).1.set j (fop .sub .f32 ((impJ (fun y => sqK xss ws gs y xss.length) unit s j).1.getD j 0) unit)), c68 * 1, 27⟩ :: L1) ?_ ?_ ?_ ?_ ?_
                · exact (.cons (congrArg (fun n => some (Value.slice _ n _)) (by first | (rw [impJ, impN_up (by assumption)]) | (rw [impJ, impN_down (by assumption) (by assumption)]) | (rw [impJ, impN_no (by assumption) (by assumption)]))) (.cons (congrArg (fun i => some (Value.int .i64 i)) (by first | (rw [impJ, impN_up (by assumption)] <;> rfl) | (rw [impJ, impN_down (by assumption) (by assumption)] <;> rfl) | (rw [impJ, impN_no (by assumption) (by assumption)] <;> rfl))) (.cons rfl .nil)))
                · exact (.cons rfl (.cons rfl (.cons rfl (.cons rfl (.cons rfl (.cons rfl (.cons rfl .nil)))))))
                · exact (fun w hw => hw.sub ((List.sublist_cons_self _ _).cons_cons _))
                · exact ⟨by omega, (by rw [impJ, impN_down (by assumption) (by assumption)]; exact List.mem_cons_self), List.mem_cons_of_mem _ hB0⟩
                · (try dsimp only); omega
              · skip
                refine V.skip ?_
                refine VE.block_normal ?_
                refine VE.then_wp ?_
                refine V.region ?_
                refine VL.r (.inl rfl) rfl (by decide) (yr_int rfl rfl rfl (.inl ⟨rfl, wrap_in (by omega)⟩)) ?_
                refine VL.r (.inl rfl) rfl (by decide) (yr_move rfl rfl) ?_
                refine VL.nil ?_
                refine VE.round (j + 1, p1, q1, L1) ?_ ?_ ?_ ?_ ?_
                · exact (.cons (congrArg (fun n => some (Value.slice _ n _)) (by first | (rw [impJ, impN_up (by assumption)]) | (rw [impJ, impN_down (by assumption) (by assumption)]) | (rw [impJ, impN_no (by assumption) (by assumption)]))) (.cons (congrArg (fun i => some (Value.int .i64 i)) (by first | (rw [impJ, impN_up (by assumption)] <;> rfl) | (rw [impJ, impN_down (by assumption) (by assumption)] <;> rfl) | (rw [impJ, impN_no (by assumption) (by assumption)] <;> rfl))) (.cons rfl .nil)))
                · exact (.cons rfl (.cons rfl (.cons rfl (.cons rfl (.cons rfl (.cons rfl (.cons rfl .nil)))))))
                · exact (fun w hw => hw.sub ((List.sublist_cons_self _ _).trans (List.sublist_cons_self _ _)))
                · exact ⟨by omega, (by rw [impJ, impN_no (by assumption) (by assumption)]; exact hC), hB0⟩
                · (try dsimp only); omega
          · skip
            replace h7 := ic_lss' h7
            refine V.exit ?_
            refine VE.then_exit ?_
            refine VE.then_exit ?_
            refine VE.block_here ?_
            refine VE.then_wp ?_
            refine V.seq ?_
            refine V.region ?_
            refine VL.r (.inl rfl) rfl (by decide) (yr_move rfl rfl) ?_
            refine VL.r (.inl rfl) rfl (by decide) (yr_move rfl rfl) ?_
            refine VL.r (.inl rfl) rfl (by decide) (yr_icmp rfl (.inl rfl) rfl rfl) ?_
            refine VL.nil ?_
            refine VE.then_wp ?_
            refine V.cond rfl (fun h10 => ?_) (fun h10 => ?_)
            · skip
              replace h10 := ic_eql h10
              refine V.exit ?_
              refine VE.block_on rfl ?_
              refine VE.then_exit ?_
              refine VE.then_exit ?_
              refine VE.block_here ?_
              refine VE.then_wp ?_
              refine V.seq ?_
              refine V.region ?_
              refine VL.r (.inl rfl) rfl (by decide) (yr_move rfl rfl) ?_
              refine VL.r (.inl rfl) rfl (by decide) (yr_move rfl rfl) ?_
              refine VL.r (.inl rfl) rfl (by decide) (yr_assign rfl rfl) ?_
              refine VL.r (.inl rfl) rfl (by decide) (yr_assign rfl rfl) ?_
              refine VL.r (.inl rfl) rfl (by decide) (yr_assign (u := .bool true) rfl rfl) ?_
              refine VL.nil ?_
              refine VE.then_wp ?_
              refine V.ret ?_
              refine ret3 rfl rfl rfl rfl (by nofun) (by nofun) (by nofun) (fun w1 hw => ?_)
              first
                | (have hs : impOk xss ws gs x unit rn = true := impOk_yes hfit (by assumption) hrn
                   have he : s = impD xss ws gs x unit rn := by
                     rw [impD_yes hs, ← hF, show rn.toNat - k = 0 by omega]
                     rfl
                   rw [hs, ← he]
                   exact ⟨(p, pc), rfl, hw.below, fun e he => (by rw [List.mem_singleton] at he; subst he; exact hw.ents _ (List.mem_append_left _ (by assumption))), List.pairwise_singleton _ _⟩)
                | (have hs : impOk xss ws gs x unit rn = true := impOk_yes hfit (by assumption) hrn
                   obtain rfl : j = s.1.length := by omega
                   have he : (impJ (fun y => sqK xss ws gs y xss.length) unit s s.1.length) = impD xss ws gs x unit rn := by
                     rw [impD_yes hs]
                     exact impF_stop (by omega) hF (by omega)
                   rw [hs, ← he]
                   exact ⟨(p1, q1), rfl, hw.below, fun e he => (by rw [List.mem_singleton] at he; subst he; exact hw.ents _ (List.mem_append_left _ (by assumption))), List.pairwise_singleton _ _⟩)
                | (have hs : impOk xss ws gs x unit rn = false := by first | exact impOk_no1 (by assumption) | exact impOk_no2 (by assumption) | exact impOk_no3 (by assumption)
                   exact ⟨(none, 0), by rw [impD_no hs, hs]; rfl, hw.below, by rw [impD_no hs]; simp [fl, Ent.at], List.pairwise_singleton _ _⟩)
            · skip
              replace h10 := ic_eql' h10
              refine V.skip ?_
              refine VE.block_normal ?_
              refine VE.then_wp ?_
              refine V.region ?_
              refine VL.r (.inl rfl) rfl (by decide) (yr_int rfl rfl rfl (.inl ⟨rfl, wrap_in (by omega)⟩)) ?_
              refine VL.r (.inl rfl) rfl (by decide) (yr_move rfl rfl) ?_
              refine VL.nil ?_
              refine VE.round (k + 1, impJ (fun y => sqK xss ws gs y xss.length) unit s j, p1, q1, L1) ?_ ?_ ?_ ?_ ?_
              · exact (.cons rfl (.cons rfl (.cons (congrArg (fun i => some (Value.int .i64 i)) (by omega)) .nil)))
              · exact (.cons rfl (.cons rfl (.cons rfl .nil)))
              · exact (fun w hw => hw)
              · obtain rfl : j = s.1.length := by omega
                exact ⟨by omega, hJl, by omega, impF_go (by omega) hF (by omega), hC⟩
              · (try dsimp only); omega
        · skip
          replace h6 := ic_lss' h6
          refine V.exit ?_
          refine VE.then_exit ?_
          refine VE.then_exit ?_
          refine VE.block_here ?_
          refine VE.then_wp ?_
          refine V.seq ?_
          refine V.region ?_
          refine VL.r (.inl rfl) rfl (by decide) (yr_move rfl rfl) ?_
          refine VL.r (.inl rfl) rfl (by decide) (yr_move rfl rfl) ?_
          refine VL.r (.inl rfl) rfl (by decide) (yr_assign rfl rfl) ?_
          refine VL.r (.inl rfl) rfl (by decide) (yr_assign rfl rfl) ?_
          refine VL.r (.inl rfl) rfl (by decide) (yr_assign (u := .bool true) rfl rfl) ?_
          refine VL.nil ?_
          refine VE.then_wp ?_
          refine V.ret ?_
          refine ret3 rfl rfl rfl rfl (by nofun) (by nofun) (by nofun) (fun w1 hw => ?_)
          first
            | (have hs : impOk xss ws gs x unit rn = true := impOk_yes hfit (by assumption) hrn
               have he : s = impD xss ws gs x unit rn := by
                 rw [impD_yes hs, ← hF, show rn.toNat - k = 0 by omega]
                 rfl
               rw [hs, ← he]
               exact ⟨(p, pc), rfl, hw.below, fun e he => (by rw [List.mem_singleton] at he; subst he; exact hw.ents _ (List.mem_append_left _ (by assumption))), List.pairwise_singleton _ _⟩)
            | (have hs : impOk xss ws gs x unit rn = true := impOk_yes hfit (by assumption) hrn
               obtain rfl : j = s.1.length := by omega
               have he : (impJ (fun y => sqK xss ws gs y xss.length) unit s s.1.length) = impD xss ws gs x unit rn := by
                 rw [impD_yes hs]
                 exact impF_stop (by omega) hF (by omega)
               rw [hs, ← he]
               exact ⟨(p1, q1), rfl, hw.below, fun e he => (by rw [List.mem_singleton] at he; subst he; exact hw.ents _ (List.mem_append_left _ (by assumption))), List.pairwise_singleton _ _⟩)
            | (have hs : impOk xss ws gs x unit rn = false := by first | exact impOk_no1 (by assumption) | exact impOk_no2 (by assumption) | exact impOk_no3 (by assumption)
               exact ⟨(none, 0), by rw [impD_no hs, hs]; rfl, hw.below, by rw [impD_no hs]; simp [fl, Ent.at], List.pairwise_singleton _ _⟩)

theorem law_ImproveSteps {w : World} {a a1 a2 : Option Addr} {c c1 c2 : Nat} {f : Nat → Option Addr × Nat} {xss : List (List Nat)} {ws gs : List Nat} {b : Option Addr} {d : Nat} {x : List Nat} {unit : Nat} {rn : Int} (hA : Cl w a (hd f xss)) (hR : Rws w f xss) (hW : Cl w a1 (fl ws)) (hG : Cl w a2 (fl gs)) (hX : Cans xss) (hXw : ∀ x ∈ ws, Can .f32 x) (hXg : ∀ x ∈ gs, Can .f32 x) (hm : xss.length ≤ 9223372036854775807) (hr1 : ∀ i, i < xss.length → (xss.getD i []).length ≤ 9223372036854775807) (hw1 : ws.length ≤ 9223372036854775807) (hg1 : gs.length ≤ 9223372036854775807) (hB : Cl w b (fl x)) (hXx : ∀ y ∈ x, Can .f32 y) : Pure Try.prog 12 [.agg #[.slice a xss.length c, .slice a1 ws.length c1, .slice a2 gs.length c2], .slice b x.length d, .float .f32 unit, .int .i64 rn] w (.bool true) := by
  refine Pure.enter Try.func12 rfl Try.ntmps12 (Nat.le_of_ble_eq_true rfl) ?_
  have hbu : bulk xss = xss.length + sumK xss xss.length := rfl
  have hS := can_impD (xss := xss) (ws := ws) (gs := gs) (unit := unit) (rn := rn) hXx
  have hSl := length_impD xss ws gs x unit rn
  refine V.seq ?_
  refine V.region ?_
  refine VL.new1 (.inl rfl) rfl (by decide) (yn_box rfl rfl (.inr ⟨rfl, rfl⟩)) ?_
  intro b4
  refine VL.r (.inl rfl) rfl (by decide) (yr_assign (u := .bool false) rfl rfl) ?_
  refine VL.nil ?_
  refine VE.then_wp ?_
  refine V.seq ?_
  refine V.seq ?_
  refine V.region ?_
  refine VL.r (.inl rfl) rfl (by decide) (yr_move rfl rfl) ?_
  refine VL.r (.inl rfl) rfl (by decide) (yr_len rfl Try.underlying23 rfl) ?_
  refine VL.r (.inl rfl) rfl (by decide) (yr_icmp rfl (.inr (.inr (.inr (.inr (.inl rfl))))) rfl rfl) ?_
  refine VL.nil ?_
  refine VE.then_wp ?_
  refine V.cond rfl (fun h1 => ?_) (fun h1 => ?_)
  · skip
    replace h1 := ic_gtr h1
    refine V.seq ?_
    refine V.region ?_
    refine VL.r (.inl rfl) rfl (by decide) (yr_assign (u := .bool true) rfl rfl) ?_
    refine VL.nil ?_
    refine VE.then_wp ?_
    refine V.ret ?_
    refine VE.then_ret ?_
    refine ret1 rfl rfl (fun w1 hw => ?_)
    exact ⟨rfl, hw.below⟩
  · skip
    replace h1 := ic_gtr' h1
    refine V.skip ?_
    refine VE.then_wp ?_
    refine V.seq ?_
    refine V.region ?_
    refine VL.r (.inl rfl) rfl (by decide) (yr_assign (u := .int .i64 1048576) rfl rfl) ?_
    refine VL.nil ?_
    refine VE.then_wp ?_
    refine V.seq ?_
    refine V.region ?_
    refine VL.q (.inl rfl) rfl (by decide) (yq_loadS rfl Try.underlying25 sz25_Imp rfl (by first | exact Sees.root (by assumption) | exact Sees.own (by repeat (first | exact List.mem_cons_self | exact List.mem_append_left _ (by assumption) | apply List.mem_cons_of_mem | apply List.mem_append_right)) | exact Sees.root (hR _ (by omega)) | exact Sees.own (RowsIn.mem (by repeat (first | exact RowsIn.here | exact RowsIn.last | apply RowsIn.there | apply RowsIn.thereS)) _ (by omega))) rfl rfl rfl) ?_
    refine VL.r (.inl rfl) rfl (by decide) (yr_move rfl rfl) ?_
    refine VL.q (.inl rfl) rfl (by decide) (yq_callf rfl known15_Imp (.cons rfl (.cons rfl .nil)) (fun w hw => (c_szDesign (by first | exact Sees.root (by assumption) w hw | exact Sees.own (by repeat (first | exact List.mem_cons_self | exact List.mem_append_left _ (by assumption) | apply List.mem_cons_of_mem | apply List.mem_append_right)) w hw) (by omega) (by omega) (by omega) (by assumption) (by omega) (by omega)))) ?_
    refine VL.r (.inl rfl) rfl (by decide) (yr_assign rfl rfl) ?_
    refine VL.nil ?_
    refine VE.then_wp ?_
    refine V.seq ?_
    refine V.seq ?_
    refine V.region ?_
    refine VL.r (.inl rfl) rfl (by decide) (yr_move rfl rfl) ?_
    refine VL.r (.inl rfl) rfl (by decide) (yr_icmp rfl (.inr (.inr (.inl rfl))) rfl rfl) ?_
    refine VL.nil ?_
    refine VE.then_wp ?_
    refine V.cond rfl (fun h2 => ?_) (fun h2 => ?_)
    · skip
      replace h2 := ic_lss h2
      refine V.seq ?_
      refine V.region ?_
      refine VL.r (.inl rfl) rfl (by decide) (yr_assign (u := .bool true) rfl rfl) ?_
      refine VL.nil ?_
      refine VE.then_wp ?_
      refine V.ret ?_
      refine VE.then_ret ?_
      refine ret1 rfl rfl (fun w1 hw => ?_)
      exact ⟨rfl, hw.below⟩
    · skip
      replace h2 := ic_lss' h2
      have hsz := szOf_fits h2
      refine V.skip ?_
      refine VE.then_wp ?_
      refine V.seq ?_
      refine V.region ?_
      refine VL.q (.inl rfl) rfl (by decide) (yq_loadS rfl Try.underlying25 sz25_Imp rfl (by first | exact Sees.root (by assumption) | exact Sees.own (by repeat (first | exact List.mem_cons_self | exact List.mem_append_left _ (by assumption) | apply List.mem_cons_of_mem | apply List.mem_append_right)) | exact Sees.root (hR _ (by omega)) | exact Sees.own (RowsIn.mem (by repeat (first | exact RowsIn.here | exact RowsIn.last | apply RowsIn.there | apply RowsIn.thereS)) _ (by omega))) rfl rfl rfl) ?_
      refine VL.new (.inl rfl) rfl (by decide) (yn_callf rfl known17_Imp (.cons rfl .nil) (fun w hw => (c_toDesign (by first | exact Sees.root (by assumption) w hw | exact Sees.own (by repeat (first | exact List.mem_cons_self | exact List.mem_append_left _ (by assumption) | apply List.mem_cons_of_mem | apply List.mem_append_right)) w hw) (by first | exact Rws.root (by assumption) hw | exact Rws.own (by repeat (first | exact RowsIn.here | exact RowsIn.last | apply RowsIn.there | apply RowsIn.thereS)) hw) (by first | exact Sees.root (by assumption) w hw | exact Sees.own (by repeat (first | exact List.mem_cons_self | exact List.mem_append_left _ (by assumption) | apply List.mem_cons_of_mem | apply List.mem_append_right)) w hw) (by first | exact Sees.root (by assumption) w hw | exact Sees.own (by repeat (first | exact List.mem_cons_self | exact List.mem_append_left _ (by assumption) | apply List.mem_cons_of_mem | apply List.mem_append_right)) w hw) (by omega)))) ?_
      rintro ⟨⟨b34, f34⟩, ⟨a34, c34⟩, ⟨d34, e34⟩⟩
      refine VL.r (.inl rfl) rfl (by decide) (yr_move rfl rfl) ?_
      refine VL.new1 (.inl rfl) rfl (by decide) (yn_callf rfl known18_Imp (.cons rfl .nil) (fun w hw => c_toF (by first | exact Sees.root (by assumption) w hw | exact Sees.own (by repeat (first | exact List.mem_cons_self | exact List.mem_append_left _ (by assumption) | apply List.mem_cons_of_mem | apply List.mem_append_right)) w hw) (by omega))) ?_
      rintro ⟨a36, c36⟩
      refine VL.r (.inl rfl) rfl (by decide) (yr_move rfl rfl) ?_
      refine VL.r (.inl rfl) rfl (by decide) (yr_move rfl rfl) ?_
      refine VL.new1 (.inl rfl) rfl (by decide) (yn_callf rfl known52_Imp (.cons rfl (.cons rfl (.cons rfl (.cons rfl .nil)))) (fun w hw => (c_specImp (by first | exact Sees.root (by assumption) w hw | exact Sees.own (by repeat (first | exact List.mem_cons_self | exact List.mem_append_left _ (by assumption) | apply List.mem_cons_of_mem | apply List.mem_append_right)) w hw) (by first | exact Rws.root (by assumption) hw | exact Rws.own (by repeat (first | exact RowsIn.here | exact RowsIn.last | apply RowsIn.there | apply RowsIn.thereS)) hw) (by first | exact Sees.root (by assumption) w hw | exact Sees.own (by repeat (first | exact List.mem_cons_self | exact List.mem_append_left _ (by assumption) | apply List.mem_cons_of_mem | apply List.mem_append_right)) w hw) (by first | exact Sees.root (by assumption) w hw | exact Sees.own (by repeat (first | exact List.mem_cons_self | exact List.mem_append_left _ (by assumption) | apply List.mem_cons_of_mem | apply List.mem_append_right)) w hw) (by first | exact Sees.root (by assumption) w hw | exact Sees.own (by repeat (first | exact List.mem_cons_self | exact List.mem_append_left _ (by assumption) | apply List.mem_cons_of_mem | apply List.mem_append_right)) w hw) (by omega)))) ?_
      rintro ⟨a39, c39⟩
      refine VL.r (.inl rfl) rfl (by decide) (yr_move rfl rfl) ?_
      refine VL.r (.inl rfl) rfl (by decide) (yr_extract rfl rfl rfl (by nofun)) ?_
      refine VL.r (.inl rfl) rfl (by decide) (yr_extract rfl rfl rfl (by nofun)) ?_
      refine VL.r (.inl rfl) rfl (by decide) (yr_extract rfl rfl rfl (by nofun)) ?_
      refine VL.r (.inl rfl) rfl (by decide) (yr_assign rfl rfl) ?_
      refine VL.r (.inl rfl) rfl (by decide) (yr_assign rfl rfl) ?_
      refine VL.r (.inl rfl) rfl (by decide) (yr_assign rfl rfl) ?_
      refine VL.nil ?_
      refine VE.then_wp ?_
      refine V.seq ?_
      refine V.region ?_
      refine VL.q (.inl rfl) rfl (by decide) (yq_loadS rfl Try.underlying25 sz25_Imp rfl (by first | exact Sees.root (by assumption) | exact Sees.own (by repeat (first | exact List.mem_cons_self | exact List.mem_append_left _ (by assumption) | apply List.mem_cons_of_mem | apply List.mem_append_right)) | exact Sees.root (hR _ (by omega)) | exact Sees.own (RowsIn.mem (by repeat (first | exact RowsIn.here | exact RowsIn.last | apply RowsIn.there | apply RowsIn.thereS)) _ (by omega))) rfl rfl rfl) ?_
      refine VL.new (.inl rfl) rfl (by decide) (yn_callf rfl known17_Imp (.cons rfl .nil) (fun w hw => (c_toDesign (by first | exact Sees.root (by assumption) w hw | exact Sees.own (by repeat (first | exact List.mem_cons_self | exact List.mem_append_left _ (by assumption) | apply List.mem_cons_of_mem | apply List.mem_append_right)) w hw) (by first | exact Rws.root (by assumption) hw | exact Rws.own (by repeat (first | exact RowsIn.here | exact RowsIn.last | apply RowsIn.there | apply RowsIn.thereS)) hw) (by first | exact Sees.root (by assumption) w hw | exact Sees.own (by repeat (first | exact List.mem_cons_self | exact List.mem_append_left _ (by assumption) | apply List.mem_cons_of_mem | apply List.mem_append_right)) w hw) (by first | exact Sees.root (by assumption) w hw | exact Sees.own (by repeat (first | exact List.mem_cons_self | exact List.mem_append_left _ (by assumption) | apply List.mem_cons_of_mem | apply List.mem_append_right)) w hw) (by omega)))) ?_
      rintro ⟨⟨b44, f44⟩, ⟨a44, c44⟩, ⟨d44, e44⟩⟩
      refine VL.new1 (.inl rfl) rfl (by decide) (yn_alloc rfl zero30_Imp rfl) ?_
      intro b13
      refine VL.s (.inl rfl) rfl (yc_store rfl sz30_Imp rfl rfl (by repeat (first | exact UpdF.here | apply UpdF.there | apply UpdF.thereS)) (.inr ⟨rfl, rfl⟩) rfl (by first | exact Nat.le_of_ble_eq_true rfl | simp) (by decide) rfl) ?_
      rintro ⟨⟩
      refine VL.nil ?_
      refine VE.then_wp ?_
      refine V.seq ?_
      refine V.region ?_
      refine VL.r (.inl rfl) rfl (by decide) (yr_move rfl rfl) ?_
      refine VL.new1 (.inl rfl) rfl (by decide) (yn_callf rfl known18_Imp (.cons rfl .nil) (fun w hw => c_toF (by first | exact Sees.root (by assumption) w hw | exact Sees.own (by repeat (first | exact List.mem_cons_self | exact List.mem_append_left _ (by assumption) | apply List.mem_cons_of_mem | apply List.mem_append_right)) w hw) (by omega))) ?_
      rintro ⟨a46, c46⟩
      refine VL.r (.inl rfl) rfl (by decide) (yr_assign rfl rfl) ?_
      refine VL.nil ?_
      refine VE.then_wp ?_
      refine V.seq ?_
      refine V.region ?_
      refine VL.q (.inl rfl) rfl (by decide) (yq_loadS rfl Try.underlying30 sz30_Imp rfl (by first | exact Sees.root (by assumption) | exact Sees.own (by repeat (first | exact List.mem_cons_self | exact List.mem_append_left _ (by assumption) | apply List.mem_cons_of_mem | apply List.mem_append_right)) | exact Sees.root (hR _ (by omega)) | exact Sees.own (RowsIn.mem (by repeat (first | exact RowsIn.here | exact RowsIn.last | apply RowsIn.there | apply RowsIn.thereS)) _ (by omega))) rfl rfl rfl) ?_
      refine VL.r (.inl rfl) rfl (by decide) (yr_move rfl rfl) ?_
      refine VL.r (.inl rfl) rfl (by decide) (yr_move rfl rfl) ?_
      refine VL.r (.inl rfl) rfl (by decide) (yr_move rfl rfl) ?_
      refine VL.new1 (.inl rfl) rfl (by decide) (yn_callf rfl known53_Imp (.cons rfl (.cons rfl (.cons rfl (.cons rfl .nil)))) (fun w hw => (c_implImp (by first | exact Sees.root (by assumption) w hw | exact Sees.own (by repeat (first | exact List.mem_cons_self | exact List.mem_append_left _ (by assumption) | apply List.mem_cons_of_mem | apply List.mem_append_right)) w hw) (by first | exact Rws.root (by assumption) hw | exact Rws.own (by repeat (first | exact RowsIn.here | exact RowsIn.last | apply RowsIn.there | apply RowsIn.thereS)) hw) (by first | exact Sees.root (by assumption) w hw | exact Sees.own (by repeat (first | exact List.mem_cons_self | exact List.mem_append_left _ (by assumption) | apply List.mem_cons_of_mem | apply List.mem_append_right)) w hw) (by first | exact Sees.root (by assumption) w hw | exact Sees.own (by repeat (first | exact List.mem_cons_self | exact List.mem_append_left _ (by assumption) | apply List.mem_cons_of_mem | apply List.mem_append_right)) w hw) (by first | exact Sees.root (by assumption) w hw | exact Sees.own (by repeat (first | exact List.mem_cons_self | exact List.mem_append_left _ (by assumption) | apply List.mem_cons_of_mem | apply List.mem_append_right)) w hw) (by omega)))) ?_
      rintro ⟨a52, c52⟩
      refine VL.r (.inl rfl) rfl (by decide) (yr_move rfl rfl) ?_
      refine VL.r (.inl rfl) rfl (by decide) (yr_extract rfl rfl rfl (by nofun)) ?_
      refine VL.r (.inl rfl) rfl (by decide) (yr_extract rfl rfl rfl (by nofun)) ?_
      refine VL.r (.inl rfl) rfl (by decide) (yr_extract rfl rfl rfl (by nofun)) ?_
      refine VL.r (.inl rfl) rfl (by decide) (yr_assign rfl rfl) ?_
      refine VL.r (.inl rfl) rfl (by decide) (yr_assign rfl rfl) ?_
      refine VL.r (.inl rfl) rfl (by decide) (yr_assign rfl rfl) ?_
      refine VL.nil ?_
      refine VE.then_wp ?_
      refine V.seq ?_
      refine V.seq ?_
      refine V.region ?_
      refine VL.r (.inl rfl) rfl (by decide) (yr_move rfl rfl) ?_
      refine VL.r (.inl rfl) rfl (by decide) (yr_move rfl rfl) ?_
      refine VL.q (.inl rfl) rfl (by decide) (yq_callf rfl known22_Imp (.cons rfl (.cons rfl .nil)) (fun w hw => c_eqF (by first | exact Sees.root (by assumption) w hw | exact Sees.own (by repeat (first | exact List.mem_cons_self | exact List.mem_append_left _ (by assumption) | apply List.mem_cons_of_mem | apply List.mem_append_right)) w hw) (by first | exact Sees.root (by assumption) w hw | exact Sees.own (by repeat (first | exact List.mem_cons_self | exact List.mem_append_left _ (by assumption) | apply List.mem_cons_of_mem | apply List.mem_append_right)) w hw) (by first | assumption | exact can_up _ | exact can_fop _ _ _ _ | exact can_of _ (by assumption)) (by first | assumption | exact can_up _ | exact can_fop _ _ _ _ | exact can_of _ (by assumption)) (by omega))) ?_
      refine VL.r (.inl rfl) rfl (by decide) (yr_not rfl rfl) ?_
      refine VL.r (.inl rfl) rfl (by decide) (yr_move rfl rfl) ?_
      refine VX.split 60 _ rfl (fun h3 => ?_) (fun h3 => ?_)
      · skip
        replace h3 := bnot_t h3
        first | (exfalso; omega) | (simp [bcmp] at h3; done)
      · skip
        replace h3 := bnot_f h3
        refine VL.r (.inr ⟨_, _, _, rfl, rfl, rfl⟩) rfl (by decide) (yr_move rfl rfl) ?_
        refine VL.r (.inr ⟨_, _, _, rfl, rfl, rfl⟩) rfl (by decide) (yr_move rfl rfl) ?_
        refine VL.r (.inr ⟨_, _, _, rfl, rfl, rfl⟩) rfl (by decide) (yr_icmp rfl (.inr (.inl rfl)) rfl rfl) ?_
        refine VL.r (.inl rfl) rfl (by decide) (yr_pick_f rfl rfl rfl) ?_
        refine VL.r (.inl rfl) rfl (by decide) (yr_move rfl rfl) ?_
        refine VX.split 65 _ rfl (fun h4 => ?_) (fun h4 => ?_)
        · skip
          replace h4 := ic_neq h4
          first | (exfalso; omega) | (simp [bcmp] at h4; done)
        · skip
          replace h4 := ic_neq' h4
          refine VL.r (.inr ⟨_, _, _, rfl, rfl, rfl⟩) rfl (by decide) (yr_move rfl rfl) ?_
          refine VL.r (.inr ⟨_, _, _, rfl, rfl, rfl⟩) rfl (by decide) (yr_move rfl rfl) ?_
          refine VL.r (.inr ⟨_, _, _, rfl, rfl, rfl⟩) rfl (by decide) (yr_bcmp rfl Try.underlying4 rfl rfl (.inr rfl)) ?_
          refine VL.r (.inl rfl) rfl (by decide) (yr_pick_f rfl rfl rfl) ?_
          refine VL.nil ?_
          refine VE.then_wp ?_
          refine V.cond rfl (fun h5 => ?_) (fun h5 => ?_)
          · skip
            first | (exfalso; omega) | (simp [bcmp] at h5; done)
          · skip
            refine V.skip ?_
            refine VE.then_wp ?_
            refine V.seq ?_
            refine V.seq ?_
            refine V.draw [(0, 0), (1, 0), (2, 1), (3, 0), (4, 0)] mixed_Imp (by kernel_rfl) (by intro j o hj; simp at hj) ?_
            refine SW.q rfl (.inl rfl) rfl (by decide) (yq_loadS rfl Try.underlying30 sz30_Imp rfl (by first | exact Sees.root (by assumption) | exact Sees.own (by repeat (first | exact List.mem_cons_self | exact List.mem_append_left _ (by assumption) | apply List.mem_cons_of_mem | apply List.mem_append_right)) | exact Sees.root (hR _ (by omega)) | exact Sees.own (RowsIn.mem (by repeat (first | exact RowsIn.here | exact RowsIn.last | apply RowsIn.there | apply RowsIn.thereS)) _ (by omega))) rfl rfl rfl) ?_
            refine SW.q rfl (.inl rfl) rfl (by decide) (yq_loadS rfl Try.underlying25 sz25_Imp rfl (by first | exact Sees.root (by assumption) | exact Sees.own (by repeat (first | exact List.mem_cons_self | exact List.mem_append_left _ (by assumption) | apply List.mem_cons_of_mem | apply List.mem_append_right)) | exact Sees.root (hR _ (by omega)) | exact Sees.own (RowsIn.mem (by repeat (first | exact RowsIn.here | exact RowsIn.last | apply RowsIn.there | apply RowsIn.thereS)) _ (by omega))) rfl rfl rfl) ?_
            refine SW.new rfl (.inl rfl) rfl (by decide) (yn_callf rfl known17_Imp (.cons rfl .nil) (fun w hw => (c_toDesign (by first | exact Sees.root (by assumption) w hw | exact Sees.own (by repeat (first | exact List.mem_cons_self | exact List.mem_append_left _ (by assumption) | apply List.mem_cons_of_mem | apply List.mem_append_right)) w hw) (by first | exact Rws.root (by assumption) hw | exact Rws.own (by repeat (first | exact RowsIn.here | exact RowsIn.last | apply RowsIn.there | apply RowsIn.thereS)) hw) (by first | exact Sees.root (by assumption) w hw | exact Sees.own (by repeat (first | exact List.mem_cons_self | exact List.mem_append_left _ (by assumption) | apply List.mem_cons_of_mem | apply List.mem_append_right)) w hw) (by first | exact Sees.root (by assumption) w hw | exact Sees.own (by repeat (first | exact List.mem_cons_self | exact List.mem_append_left _ (by assumption) | apply List.mem_cons_of_mem | apply List.mem_append_right)) w hw) (by omega)))) ?_
            rintro ⟨⟨b72, f72⟩, ⟨a72, c72⟩, ⟨d72, e72⟩⟩
            refine SW.q rfl (.inl rfl) rfl (by decide) (yq_callf rfl known21_Imp (.cons rfl (.cons rfl .nil)) (fun w hw => (c_eqDesign (by first | exact Sees.root (by assumption) w hw | exact Sees.own (by repeat (first | exact List.mem_cons_self | exact List.mem_append_left _ (by assumption) | apply List.mem_cons_of_mem | apply List.mem_append_right)) w hw) (by first | exact Rws.root (by assumption) hw | exact Rws.own (by repeat (first | exact RowsIn.here | exact RowsIn.last | apply RowsIn.there | apply RowsIn.thereS)) hw) (by first | exact Sees.root (by assumption) w hw | exact Sees.own (by repeat (first | exact List.mem_cons_self | exact List.mem_append_left _ (by assumption) | apply List.mem_cons_of_mem | apply List.mem_append_right)) w hw) (by first | exact Sees.root (by assumption) w hw | exact Sees.own (by repeat (first | exact List.mem_cons_self | exact List.mem_append_left _ (by assumption) | apply List.mem_cons_of_mem | apply List.mem_append_right)) w hw) (by first | exact Sees.root (by assumption) w hw | exact Sees.own (by repeat (first | exact List.mem_cons_self | exact List.mem_append_left _ (by assumption) | apply List.mem_cons_of_mem | apply List.mem_append_right)) w hw) (by first | exact Rws.root (by assumption) hw | exact Rws.own (by repeat (first | exact RowsIn.here | exact RowsIn.last | apply RowsIn.there | apply RowsIn.thereS)) hw) (by first | exact Sees.root (by assumption) w hw | exact Sees.own (by repeat (first | exact List.mem_cons_self | exact List.mem_append_left _ (by assumption) | apply List.mem_cons_of_mem | apply List.mem_append_right)) w hw) (by first | exact Sees.root (by assumption) w hw | exact Sees.own (by repeat (first | exact List.mem_cons_self | exact List.mem_append_left _ (by assumption) | apply List.mem_cons_of_mem | apply List.mem_append_right)) w hw) (by assumption) (by assumption) (by assumption) (by assumption) (by assumption) (by assumption) (by omega)))) ?_
            refine SW.r rfl (.inl rfl) rfl (by decide) (yr_not rfl rfl) ?_
            refine SW.done ?_
            refine VE.then_wp ?_
            refine V.cond rfl (fun h6 => ?_) (fun h6 => ?_)
            · skip
              replace h6 := bnot_t h6
              first | (exfalso; omega) | (simp [bcmp] at h6; done)
            · skip
              replace h6 := bnot_f h6
              refine V.skip ?_
              refine VE.then_wp ?_
              refine V.seq ?_
              refine V.seq ?_
              refine V.region ?_
              refine VL.r (.inl rfl) rfl (by decide) (yr_move rfl rfl) ?_
              refine VL.r (.inl rfl) rfl (by decide) (yr_move rfl rfl) ?_
              refine VL.new1 (.inl rfl) rfl (by decide) (yn_callf rfl known18_Imp (.cons rfl .nil) (fun w hw => c_toF (by first | exact Sees.root (by assumption) w hw | exact Sees.own (by repeat (first | exact List.mem_cons_self | exact List.mem_append_left _ (by assumption) | apply List.mem_cons_of_mem | apply List.mem_append_right)) w hw) (by omega))) ?_
              rintro ⟨a77, c77⟩
              refine VL.q (.inl rfl) rfl (by decide) (yq_callf rfl known22_Imp (.cons rfl (.cons rfl .nil)) (fun w hw => c_eqF (by first | exact Sees.root (by assumption) w hw | exact Sees.own (by repeat (first | exact List.mem_cons_self | exact List.mem_append_left _ (by assumption) | apply List.mem_cons_of_mem | apply List.mem_append_right)) w hw) (by first | exact Sees.root (by assumption) w hw | exact Sees.own (by repeat (first | exact List.mem_cons_self | exact List.mem_append_left _ (by assumption) | apply List.mem_cons_of_mem | apply List.mem_append_right)) w hw) (by first | assumption | exact can_up _ | exact can_fop _ _ _ _ | exact can_of _ (by assumption)) (by first | assumption | exact can_up _ | exact can_fop _ _ _ _ | exact can_of _ (by assumption)) (by omega))) ?_
              refine VL.r (.inl rfl) rfl (by decide) (yr_not rfl rfl) ?_
              refine VL.nil ?_
              refine VE.then_wp ?_
              refine V.cond rfl (fun h7 => ?_) (fun h7 => ?_)
              · skip
                replace h7 := bnot_t h7
                first | (exfalso; omega) | (simp [bcmp] at h7; done)
              · skip
                replace h7 := bnot_f h7
                refine V.skip ?_
                refine VE.then_wp ?_
                refine V.seq ?_
                refine V.region ?_
                refine VL.r (.inl rfl) rfl (by decide) (yr_assign (u := .int .i64 1) rfl rfl) ?_
                refine VL.nil ?_
                refine VE.then_wp ?_
                refine V.seq ?_
                refine V.region ?_
                refine VL.q (.inl rfl) rfl (by decide) (yq_loadS rfl Try.underlying30 sz30_Imp rfl (by first | exact Sees.root (by assumption) | exact Sees.own (by repeat (first | exact List.mem_cons_self | exact List.mem_append_left _ (by assumption) | apply List.mem_cons_of_mem | apply List.mem_append_right)) | exact Sees.root (hR _ (by omega)) | exact Sees.own (RowsIn.mem (by repeat (first | exact RowsIn.here | exact RowsIn.last | apply RowsIn.there | apply RowsIn.thereS)) _ (by omega))) rfl rfl rfl) ?_
                refine VL.r (.inl rfl) rfl (by decide) (yr_move rfl rfl) ?_
                refine VL.c (.inl rfl) rfl (by decide) (yc_callf rfl known33_Imp (.cons rfl (.cons rfl .nil)) (by apply Pick.four; all_goals (repeat (first | exact Rem.here | exact Rem.all | exact Rem.hereS | apply Rem.there | apply Rem.thereS))) (c_markDesign (by omega) (by omega) (by omega))) ?_
                rintro ⟨⟩
                refine VL.r (.inl rfl) rfl (by decide) (yr_assign rfl rfl) ?_
                refine VL.nil ?_
                refine VE.then_wp ?_
                refine V.seq ?_
                refine V.region ?_
                refine VL.r (.inl rfl) rfl (by decide) (yr_move rfl rfl) ?_
                refine VL.r (.inl rfl) rfl (by decide) (yr_move rfl rfl) ?_
                refine VL.c (.inl rfl) rfl (by decide) (yc_callf rfl known29_Imp (.cons rfl (.cons rfl .nil)) (by apply Pick.one; repeat (first | exact Rem.here | apply Rem.there | apply Rem.thereS)) (c_markF (by omega) (by omega) (by omega))) ?_
                rintro ⟨⟩
                refine VL.r (.inl rfl) rfl (by decide) (yr_assign rfl rfl) ?_
                refine VL.nil ?_
                refine VE.then_wp ?_
                refine V.seq ?_
                refine V.seq ?_
                refine V.region ?_
                refine VL.r (.inl rfl) rfl (by decide) (yr_move rfl rfl) ?_
                refine VL.r (.inl rfl) rfl (by decide) (yr_icmp rfl (.inr (.inr (.inl rfl))) rfl rfl) ?_
                refine VL.r (.inl rfl) rfl (by decide) (yr_move rfl rfl) ?_
                refine VX.split 88 _ rfl (fun h8 => ?_) (fun h8 => ?_)
                · skip
                  replace h8 := ic_lss h8
                  first | (exfalso; omega) | (simp [bcmp] at h8; done)
                · skip
                  replace h8 := ic_lss' h8
                  refine VL.r (.inr ⟨_, _, _, rfl, rfl, rfl⟩) rfl (by decide) (yr_move rfl rfl) ?_
                  refine VL.r (.inr ⟨_, _, _, rfl, rfl, rfl⟩) rfl (by decide) (yr_move rfl rfl) ?_
                  refine VL.q (.inr ⟨_, _, _, rfl, rfl, rfl⟩) rfl (by decide) (yq_callf rfl known22_Imp (.cons rfl (.cons rfl .nil)) (fun w hw => c_eqF (by first | exact Sees.root (by assumption) w hw | exact Sees.own (by repeat (first | exact List.mem_cons_self | exact List.mem_append_left _ (by assumption) | apply List.mem_cons_of_mem | apply List.mem_append_right)) w hw) (by first | exact Sees.root (by assumption) w hw | exact Sees.own (by repeat (first | exact List.mem_cons_self | exact List.mem_append_left _ (by assumption) | apply List.mem_cons_of_mem | apply List.mem_append_right)) w hw) (by first | assumption | exact can_up _ | exact can_fop _ _ _ _ | exact can_of _ (by assumption)) (by first | assumption | exact can_up _ | exact can_fop _ _ _ _ | exact can_of _ (by assumption)) (by omega))) ?_
                  refine VL.r (.inr ⟨_, _, _, rfl, rfl, rfl⟩) rfl (by decide) (yr_not rfl rfl) ?_
                  refine VL.r (.inl rfl) rfl (by decide) (yr_pick_f rfl rfl rfl) ?_
                  refine VL.r (.inl rfl) rfl (by decide) (yr_move rfl rfl) ?_
                  refine VX.split 94 _ rfl (fun h9 => ?_) (fun h9 => ?_)
                  · skip
                    replace h9 := bnot_t h9
                    first | (exfalso; omega) | (simp [bcmp] at h9; done)
                  · skip
                    replace h9 := bnot_f h9
                    refine VL.r (.inr ⟨_, _, _, rfl, rfl, rfl⟩) rfl (by decide) (yr_move rfl rfl) ?_
                    refine VL.r (.inr ⟨_, _, _, rfl, rfl, rfl⟩) rfl (by decide) (yr_move rfl rfl) ?_
                    refine VL.r (.inr ⟨_, _, _, rfl, rfl, rfl⟩) rfl (by decide) (yr_icmp rfl (.inr (.inl rfl)) rfl rfl) ?_
                    refine VL.r (.inl rfl) rfl (by decide) (yr_pick_f rfl rfl rfl) ?_
                    refine VL.r (.inl rfl) rfl (by decide) (yr_move rfl rfl) ?_
                    refine VX.split 99 _ rfl (fun h10 => ?_) (fun h10 => ?_)
                    · skip
                      replace h10 := ic_neq h10
                      first | (exfalso; omega) | (simp [bcmp] at h10; done)
                    · skip
                      replace h10 := ic_neq' h10
                      refine VL.r (.inr ⟨_, _, _, rfl, rfl, rfl⟩) rfl (by decide) (yr_move rfl rfl) ?_
                      refine VL.r (.inr ⟨_, _, _, rfl, rfl, rfl⟩) rfl (by decide) (yr_move rfl rfl) ?_
                      refine VL.r (.inr ⟨_, _, _, rfl, rfl, rfl⟩) rfl (by decide) (yr_bcmp rfl Try.underlying4 rfl rfl (.inr rfl)) ?_
                      refine VL.r (.inl rfl) rfl (by decide) (yr_pick_f rfl rfl rfl) ?_
                      refine VL.nil ?_
                      refine VE.then_wp ?_
                      refine V.cond rfl (fun h11 => ?_) (fun h11 => ?_)
                      · skip
                        first | (exfalso; omega) | (simp [bcmp] at h11; done)
                      · skip
                        refine V.skip ?_
                        refine VE.then_wp ?_
                        refine V.seq ?_
                        refine V.region ?_
                        refine VL.r (.inl rfl) rfl (by decide) (yr_assign (u := .int .i64 1) rfl rfl) ?_
                        refine VL.nil ?_
                        refine VE.then_wp ?_
                        refine V.seq ?_
                        refine V.region ?_
                        refine VL.r (.inl rfl) rfl (by decide) (yr_move rfl rfl) ?_
                        refine VL.r (.inl rfl) rfl (by decide) (yr_move rfl rfl) ?_
                        refine VL.c (.inl rfl) rfl (by decide) (yc_callf rfl known29_Imp (.cons rfl (.cons rfl .nil)) (by apply Pick.one; repeat (first | exact Rem.here | apply Rem.there | apply Rem.thereS)) (c_markF (by omega) (by omega) (by omega))) ?_
                        rintro ⟨⟩
                        refine VL.r (.inl rfl) rfl (by decide) (yr_assign rfl rfl) ?_
                        refine VL.nil ?_
                        refine VE.then_wp ?_
                        refine V.seq ?_
                        refine V.region ?_
                        refine VL.r (.inl rfl) rfl (by decide) (yr_assign (u := .int .i64 1) rfl rfl) ?_
                        refine VL.nil ?_
                        refine VE.then_wp ?_
                        refine V.seq ?_
                        refine V.region ?_
                        refine VL.r (.inl rfl) rfl (by decide) (yr_move rfl rfl) ?_
                        refine VL.r (.inl rfl) rfl (by decide) (yr_move rfl rfl) ?_
                        refine VL.q (.inl rfl) rfl (by decide) (yq_callf rfl known30_Imp (.cons rfl (.cons rfl .nil)) (fun w hw => c_heldF (by first | exact Sees.root (by assumption) w hw | exact Sees.own (by repeat (first | exact List.mem_cons_self | exact List.mem_append_left _ (by assumption) | apply List.mem_cons_of_mem | apply List.mem_append_right)) w hw) (by omega) (by omega) (by omega))) ?_
                        refine VL.r (.inl rfl) rfl (by decide) (yr_assign rfl rfl) ?_
                        refine VL.nil ?_
                        refine VE.then_wp ?_
                        refine V.seq ?_
                        refine V.seq ?_
                        refine V.region ?_
                        refine VL.r (.inl rfl) rfl (by decide) (yr_move rfl rfl) ?_
                        refine VL.r (.inl rfl) rfl (by decide) (yr_icmp rfl (.inr (.inr (.inl rfl))) rfl rfl) ?_
                        refine VL.nil ?_
                        refine VE.then_wp ?_
                        refine V.cond rfl (fun h12 => ?_) (fun h12 => ?_)
                        · skip
                          replace h12 := ic_lss h12
                          first | (exfalso; omega) | (simp [bcmp] at h12; done)
                        · skip
                          replace h12 := ic_lss' h12
                          refine V.skip ?_
                          refine VE.then_wp ?_
                          refine V.seq ?_
                          refine V.seq ?_
                          refine V.region ?_
                          refine VL.r (.inl rfl) rfl (by decide) (yr_move rfl rfl) ?_
                          refine VL.r (.inl rfl) rfl (by decide) (yr_move rfl rfl) ?_
                          refine VL.r (.inl rfl) rfl (by decide) (yr_icmp rfl (.inr (.inl rfl)) rfl rfl) ?_
                          refine VL.nil ?_
                          refine VE.then_wp ?_
                          refine V.cond rfl (fun h13 => ?_) (fun h13 => ?_)
                          · skip
                            replace h13 := ic_neq h13
                            first | (exfalso; omega) | (simp [bcmp] at h13; done)
                          · skip
                            replace h13 := ic_neq' h13
                            refine V.skip ?_
                            refine VE.then_wp ?_
                            refine V.seq ?_
                            refine V.region ?_
                            refine VL.q (.inl rfl) rfl (by decide) (yq_loadS rfl Try.underlying25 sz25_Imp rfl (by first | exact Sees.root (by assumption) | exact Sees.own (by repeat (first | exact List.mem_cons_self | exact List.mem_append_left _ (by assumption) | apply List.mem_cons_of_mem | apply List.mem_append_right)) | exact Sees.root (hR _ (by omega)) | exact Sees.own (RowsIn.mem (by repeat (first | exact RowsIn.here | exact RowsIn.last | apply RowsIn.there | apply RowsIn.thereS)) _ (by omega))) rfl rfl rfl) ?_
                            refine VL.new (.inl rfl) rfl (by decide) (yn_callf rfl known17_Imp (.cons rfl .nil) (fun w hw => (c_toDesign (by first | exact Sees.root (by assumption) w hw | exact Sees.own (by repeat (first | exact List.mem_cons_self | exact List.mem_append_left _ (by assumption) | apply List.mem_cons_of_mem | apply List.mem_append_right)) w hw) (by first | exact Rws.root (by assumption) hw | exact Rws.own (by repeat (first | exact RowsIn.here | exact RowsIn.last | apply RowsIn.there | apply RowsIn.thereS)) hw) (by first | exact Sees.root (by assumption) w hw | exact Sees.own (by repeat (first | exact List.mem_cons_self | exact List.mem_append_left _ (by assumption) | apply List.mem_cons_of_mem | apply List.mem_append_right)) w hw) (by first | exact Sees.root (by assumption) w hw | exact Sees.own (by repeat (first | exact List.mem_cons_self | exact List.mem_append_left _ (by assumption) | apply List.mem_cons_of_mem | apply List.mem_append_right)) w hw) (by omega)))) ?_
                            rintro ⟨⟨b117, f117⟩, ⟨a117, c117⟩, ⟨d117, e117⟩⟩
                            refine VL.r (.inl rfl) rfl (by decide) (yr_move rfl rfl) ?_
                            refine VL.new1 (.inl rfl) rfl (by decide) (yn_callf rfl known18_Imp (.cons rfl .nil) (fun w hw => c_toF (by first | exact Sees.root (by assumption) w hw | exact Sees.own (by repeat (first | exact List.mem_cons_self | exact List.mem_append_left _ (by assumption) | apply List.mem_cons_of_mem | apply List.mem_append_right)) w hw) (by omega))) ?_
                            rintro ⟨a119, c119⟩
                            refine VL.r (.inl rfl) rfl (by decide) (yr_move rfl rfl) ?_
                            refine VL.r (.inl rfl) rfl (by decide) (yr_move rfl rfl) ?_
                            refine VL.new1 (.inl rfl) rfl (by decide) (yn_callf rfl known53_Imp (.cons rfl (.cons rfl (.cons rfl (.cons rfl .nil)))) (fun w hw => (c_implImp (by first | exact Sees.root (by assumption) w hw | exact Sees.own (by repeat (first | exact List.mem_cons_self | exact List.mem_append_left _ (by assumption) | apply List.mem_cons_of_mem | apply List.mem_append_right)) w hw) (by first | exact Rws.root (by assumption) hw | exact Rws.own (by repeat (first | exact RowsIn.here | exact RowsIn.last | apply RowsIn.there | apply RowsIn.thereS)) hw) (by first | exact Sees.root (by assumption) w hw | exact Sees.own (by repeat (first | exact List.mem_cons_self | exact List.mem_append_left _ (by assumption) | apply List.mem_cons_of_mem | apply List.mem_append_right)) w hw) (by first | exact Sees.root (by assumption) w hw | exact Sees.own (by repeat (first | exact List.mem_cons_self | exact List.mem_append_left _ (by assumption) | apply List.mem_cons_of_mem | apply List.mem_append_right)) w hw) (by first | exact Sees.root (by assumption) w hw | exact Sees.own (by repeat (first | exact List.mem_cons_self | exact List.mem_append_left _ (by assumption) | apply List.mem_cons_of_mem | apply List.mem_append_right)) w hw) (by omega)))) ?_
                            rintro ⟨a122, c122⟩
                            refine VL.r (.inl rfl) rfl (by decide) (yr_move rfl rfl) ?_
                            refine VL.r (.inl rfl) rfl (by decide) (yr_extract rfl rfl rfl (by nofun)) ?_
                            refine VL.r (.inl rfl) rfl (by decide) (yr_extract rfl rfl rfl (by nofun)) ?_
                            refine VL.r (.inl rfl) rfl (by decide) (yr_extract rfl rfl rfl (by nofun)) ?_
                            refine VL.r (.inl rfl) rfl (by decide) (yr_assign rfl rfl) ?_
                            refine VL.r (.inl rfl) rfl (by decide) (yr_assign rfl rfl) ?_
                            refine VL.r (.inl rfl) rfl (by decide) (yr_assign rfl rfl) ?_
                            refine VL.nil ?_
                            refine VE.then_wp ?_
                            refine V.seq ?_
                            refine V.seq ?_
                            refine V.region ?_
                            refine VL.r (.inl rfl) rfl (by decide) (yr_move rfl rfl) ?_
                            refine VL.r (.inl rfl) rfl (by decide) (yr_move rfl rfl) ?_
                            refine VL.q (.inl rfl) rfl (by decide) (yq_callf rfl known22_Imp (.cons rfl (.cons rfl .nil)) (fun w hw => c_eqF (by first | exact Sees.root (by assumption) w hw | exact Sees.own (by repeat (first | exact List.mem_cons_self | exact List.mem_append_left _ (by assumption) | apply List.mem_cons_of_mem | apply List.mem_append_right)) w hw) (by first | exact Sees.root (by assumption) w hw | exact Sees.own (by repeat (first | exact List.mem_cons_self | exact List.mem_append_left _ (by assumption) | apply List.mem_cons_of_mem | apply List.mem_append_right)) w hw) (by first | assumption | exact can_up _ | exact can_fop _ _ _ _ | exact can_of _ (by assumption)) (by first | assumption | exact can_up _ | exact can_fop _ _ _ _ | exact can_of _ (by assumption)) (by omega))) ?_
                            refine VL.r (.inl rfl) rfl (by decide) (yr_not rfl rfl) ?_
                            refine VL.r (.inl rfl) rfl (by decide) (yr_move rfl rfl) ?_
                            refine VX.split 130 _ rfl (fun h14 => ?_) (fun h14 => ?_)
                            · skip
                              replace h14 := bnot_t h14
                              first | (exfalso; omega) | (simp [bcmp] at h14; done)
                            · skip
                              replace h14 := bnot_f h14
                              refine VL.r (.inr ⟨_, _, _, rfl, rfl, rfl⟩) rfl (by decide) (yr_move rfl rfl) ?_
                              refine VL.r (.inr ⟨_, _, _, rfl, rfl, rfl⟩) rfl (by decide) (yr_move rfl rfl) ?_
                              refine VL.r (.inr ⟨_, _, _, rfl, rfl, rfl⟩) rfl (by decide) (yr_icmp rfl (.inr (.inl rfl)) rfl rfl) ?_
                              refine VL.r (.inl rfl) rfl (by decide) (yr_pick_f rfl rfl rfl) ?_
                              refine VL.r (.inl rfl) rfl (by decide) (yr_move rfl rfl) ?_
                              refine VX.split 135 _ rfl (fun h15 => ?_) (fun h15 => ?_)
                              · skip
                                replace h15 := ic_neq h15
                                first | (exfalso; omega) | (simp [bcmp] at h15; done)
                              · skip
                                replace h15 := ic_neq' h15
                                refine VL.r (.inr ⟨_, _, _, rfl, rfl, rfl⟩) rfl (by decide) (yr_move rfl rfl) ?_
                                refine VL.r (.inr ⟨_, _, _, rfl, rfl, rfl⟩) rfl (by decide) (yr_move rfl rfl) ?_
                                refine VL.r (.inr ⟨_, _, _, rfl, rfl, rfl⟩) rfl (by decide) (yr_bcmp rfl Try.underlying4 rfl rfl (.inr rfl)) ?_
                                refine VL.r (.inl rfl) rfl (by decide) (yr_pick_f rfl rfl rfl) ?_
                                refine VL.nil ?_
                                refine VE.then_wp ?_
                                refine V.cond rfl (fun h16 => ?_) (fun h16 => ?_)
                                · skip
                                  first | (exfalso; omega) | (simp [bcmp] at h16; done)
                                · skip
                                  refine V.skip ?_
                                  refine VE.then_wp ?_
                                  refine V.seq ?_
                                  refine V.region ?_
                                  refine VL.r (.inl rfl) rfl (by decide) (yr_assign (u := .int .i64 1) rfl rfl) ?_
                                  refine VL.nil ?_
                                  refine VE.then_wp ?_
                                  refine V.seq ?_
                                  refine V.region ?_
                                  refine VL.r (.inl rfl) rfl (by decide) (yr_move rfl rfl) ?_
                                  refine VL.r (.inl rfl) rfl (by decide) (yr_move rfl rfl) ?_
                                  refine VL.q (.inl rfl) rfl (by decide) (yq_callf rfl known30_Imp (.cons rfl (.cons rfl .nil)) (fun w hw => c_heldF (by first | exact Sees.root (by assumption) w hw | exact Sees.own (by repeat (first | exact List.mem_cons_self | exact List.mem_append_left _ (by assumption) | apply List.mem_cons_of_mem | apply List.mem_append_right)) w hw) (by omega) (by omega) (by omega))) ?_
                                  refine VL.r (.inl rfl) rfl (by decide) (yr_assign rfl rfl) ?_
                                  refine VL.nil ?_
                                  refine VE.then_wp ?_
                                  refine V.seq ?_
                                  refine V.seq ?_
                                  refine V.region ?_
                                  refine VL.r (.inl rfl) rfl (by decide) (yr_move rfl rfl) ?_
                                  refine VL.r (.inl rfl) rfl (by decide) (yr_icmp rfl (.inr (.inr (.inl rfl))) rfl rfl) ?_
                                  refine VL.nil ?_
                                  refine VE.then_wp ?_
                                  refine V.cond rfl (fun h17 => ?_) (fun h17 => ?_)
                                  · skip
                                    replace h17 := ic_lss h17
                                    first | (exfalso; omega) | (simp [bcmp] at h17; done)
                                  · skip
                                    replace h17 := ic_lss' h17
                                    refine V.skip ?_
                                    refine VE.then_wp ?_
                                    refine V.seq ?_
                                    refine V.seq ?_
                                    refine V.region ?_
                                    refine VL.r (.inl rfl) rfl (by decide) (yr_move rfl rfl) ?_
                                    refine VL.r (.inl rfl) rfl (by decide) (yr_move rfl rfl) ?_
                                    refine VL.r (.inl rfl) rfl (by decide) (yr_icmp rfl (.inr (.inl rfl)) rfl rfl) ?_
                                    refine VL.nil ?_
                                    refine VE.then_wp ?_
                                    refine V.cond rfl (fun h18 => ?_) (fun h18 => ?_)
                                    · skip
                                      replace h18 := ic_neq h18
                                      first | (exfalso; omega) | (simp [bcmp] at h18; done)
                                    · skip
                                      replace h18 := ic_neq' h18
                                      refine V.skip ?_
                                      refine VE.then_wp ?_
                                      refine V.seq ?_
                                      refine V.region ?_
                                      refine VL.r (.inl rfl) rfl (by decide) (yr_assign (u := .bool true) rfl rfl) ?_
                                      refine VL.nil ?_
                                      refine VE.then_wp ?_
                                      refine V.ret ?_
                                      refine ret1 rfl rfl (fun w1 hw => ?_)
                                      exact ⟨rfl, hw.below⟩

end Go.Proofs.Ytcimhmnbemgpoaa
