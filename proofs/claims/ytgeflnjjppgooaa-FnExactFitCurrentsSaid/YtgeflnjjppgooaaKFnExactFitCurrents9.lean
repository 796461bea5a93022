/- Own texts of this claim, merged: QWShared, Root, Chol, QRoot, QChol, QWChol, Fit, QWFit, QWFitL, Ye. -/
import Derived.KernelRfl
import Derived.Test.YtgeflnjjppgooaaKFnExactFitCurrents8
namespace Go.Proofs.Ytgeflnjjppgooaa.Q
open Go.RowKit
set_option linter.unusedVariables false
set_option linter.unusedSimpArgs false
set_option maxRecDepth 20000
set_option maxHeartbeats 800000
attribute [local irreducible] wqList Wq
theorem sz30_Shared : (Try.prog.info? 30).map (·.size) = some 3 := by kernel_rfl
theorem known27_Shared : Known Try.prog 27 := Known.mk' Try.func27 (by kernel_rfl)
theorem known42_Shared : Known Try.prog 42 := Known.mk' Try.func42 (by kernel_rfl)
theorem fb2_Shared : flatB Try.prog 2 = true := by kernel_rfl
theorem known43_Shared : Known Try.prog 43 := Known.mk' Try.func43 (by kernel_rfl)
theorem mixed_Shared : Try.prog.follows .mixedOrders = true := by kernel_rfl
theorem known44_Shared : Known Try.prog 44 := Known.mk' Try.func44 (by kernel_rfl)
theorem elt23_Shared : Elt Try.prog 23 [Value.slice none 0 0] 24 := Elt.mk' (by kernel_rfl) (by decide)
theorem zero22_Shared : (Try.prog.info? 22).bind (·.zero) = some (Value.slice none 0 0) := by kernel_rfl
theorem sz22_Shared : (Try.prog.info? 22).map (·.size) = some 1 := by kernel_rfl
theorem lay76_Shared : Lay Try.prog 76 [Value.int .u64 0, Value.int .u32 0] [(0, 0), (0, 1), (1, 1)] := Lay.mk' (by kernel_rfl) (by kernel_rfl)
theorem zero76_Shared : (Try.prog.info? 76).bind (·.zero) = some (Value.agg #[Value.int .u64 0, Value.int .u32 0]) := by kernel_rfl
theorem sz76_Shared : (Try.prog.info? 76).map (·.size) = some 2 := by kernel_rfl
theorem fb22_Shared : flatB Try.prog 22 = true := by kernel_rfl
theorem sz23_Shared : (Try.prog.info? 23).map (·.size) = some 1 := by kernel_rfl
theorem fb23_Shared : flatB Try.prog 23 = true := by kernel_rfl
theorem elt26_Shared : Elt Try.prog 26 [Value.float .f32 0] 4 := Elt.mk' (by kernel_rfl) (by decide)
theorem known49_Shared : Known Try.prog 49 := Known.mk' Try.func49 (by kernel_rfl)
theorem sz26_Shared : (Try.prog.info? 26).map (·.size) = some 1 := by kernel_rfl
theorem fb26_Shared : flatB Try.prog 26 = true := by kernel_rfl
theorem known17_Shared : Known Try.prog 17 := Known.mk' Try.func17 (by kernel_rfl)
theorem c_implShared {w : World} {a a1 a2 : Option Addr} {c c1 c2 : Nat} {f : Nat → Option Addr × Nat} {xss : List (List Nat)} {ws gs : List Nat} {x : Nat} {n : Int} (hA : Cl w a (hd f xss)) (hR : Rws w f xss) (hW : Cl w a1 (fl ws)) (hG : Cl w a2 (fl gs)) (hsz : bulk xss + ws.length + gs.length ≤ 1050000) : New Try.prog 17 [.agg #[.slice a xss.length c, .slice a1 ws.length c1, .slice a2 gs.length c2], .float .f32 x, .int .i64 n] w (fun p : (Option Addr × Nat) × (Option Addr × Nat) => .tuple #[.slice p.1.1 (shAD xss ws gs x n).length p.1.2, .slice p.2.1 (shBD xss ws gs x n).length p.2.2, .bool (shOk xss ws gs x n)]) (fun p => [⟨p.2.1, fl (shBD xss ws gs x n), p.2.2 * 1, 26⟩, ⟨p.1.1, fl (shAD xss ws gs x n), p.1.2 * 1, 26⟩]) := by
  refine New.enter Try.func17 rfl Try.ntmps17 (Nat.le_of_ble_eq_true rfl) ?_
  have hr : ∀ i, i < xss.length → (xss.getD i []).length ≤ 1050000 := fun i hi => by have := bulk_row hi; omega
  have hxl : xss.length ≤ bulk xss := by unfold bulk; omega
  have hbl := blocksN_le xss.length
  refine V.seq ?_
  refine V.region ?_
  refine VL.new1 (.inl rfl) rfl (by decide) (yn_box rfl rfl (.inr ⟨rfl, rfl⟩)) ?_
  intro b3
  refine VL.new1 (.inl rfl) rfl (by decide) (yn_box rfl rfl (.inl ⟨rfl, rfl⟩)) ?_
  intro b5
  refine VL.r (.inl rfl) rfl (by decide) (yr_assign (u := .slice none 0 0) rfl rfl) ?_
  refine VL.r (.inl rfl) rfl (by decide) (yr_assign (u := .slice none 0 0) rfl rfl) ?_
  refine VL.r (.inl rfl) rfl (by decide) (yr_assign (u := .bool false) rfl rfl) ?_
  refine VL.nil ?_
  refine VE.then_wp ?_
  refine V.seq ?_
  refine V.seq ?_
  refine V.region ?_
  refine VL.q (.inl rfl) rfl (by decide) (yq_loadS rfl Try.underlying30 sz30_Shared rfl zz0 rfl rfl rfl) ?_
  refine VL.q (.inl rfl) rfl (by decide) (yq_callf rfl known27_Shared (.cons rfl .nil) (fun w hw => (c_implValid zz1 zz3 zz1 zz1 (by omega)))) ?_
  refine VL.r (.inl rfl) rfl (by decide) (yr_not rfl rfl) ?_
  refine VL.r (.inl rfl) rfl (by decide) (yr_move rfl rfl) ?_
  refine VX.split 21 _ rfl (fun h1 => ?_) (fun h1 => ?_)
  · skip
    replace h1 := bnot_t h1
    refine VL.no rfl rfl rfl rfl rfl (by decide) ?_
    refine VL.no rfl rfl rfl rfl rfl (by decide) ?_
    refine VL.no rfl rfl rfl rfl rfl (by decide) ?_
    refine VL.r (.inl rfl) rfl (by decide) (yr_pick_t (u := .bool true) rfl rfl rfl) ?_
    refine VL.r (.inl rfl) rfl (by decide) (yr_move rfl rfl) ?_
    refine VL.no rfl rfl rfl rfl rfl (by decide) ?_
    refine VL.no rfl rfl rfl rfl rfl (by decide) ?_
    refine VL.no rfl rfl rfl rfl rfl (by decide) ?_
    refine VL.r (.inl rfl) rfl (by decide) (yr_pick_t (u := .bool true) rfl rfl rfl) ?_
    refine VL.r (.inl rfl) rfl (by decide) (yr_move rfl rfl) ?_
    refine VL.no rfl rfl rfl rfl rfl (by decide) ?_
    refine VL.no rfl rfl rfl rfl rfl (by decide) ?_
    refine VL.no rfl rfl rfl rfl rfl (by decide) ?_
    refine VL.r (.inl rfl) rfl (by decide) (yr_pick_t (u := .bool true) rfl rfl rfl) ?_
    refine VL.nil ?_
    refine VE.then_wp ?_
    refine V.condT rfl ?_
    refine V.seq ?_
    refine V.region ?_
    refine VL.r (.inl rfl) rfl (by decide) (yr_assign (u := .slice none 0 0) rfl rfl) ?_
    refine VL.r (.inl rfl) rfl (by decide) (yr_assign (u := .slice none 0 0) rfl rfl) ?_
    refine VL.r (.inl rfl) rfl (by decide) (yr_assign (u := .bool false) rfl rfl) ?_
    refine VL.nil ?_
    refine VE.then_wp ?_
    refine V.ret ?_
    refine VE.then_ret ?_
    refine ret3 rfl rfl rfl rfl (by nofun) (by nofun) (by nofun) (fun w1 hw => ?_)
    first
      | (obtain rfl : j = (xss.getD 0 []).length := by omega
         exact ⟨((some ⟨b59, 0, none⟩, (xss.getD 0 []).length * (xss.getD 0 []).length), (some ⟨b61, 0, none⟩, (xss.getD 0 []).length)), by rw [shAD_yes hs, shBD_yes hs, hs, normA_length, normB_length] <;> rfl, by rw [shAD_yes hs, shBD_yes hs]; exact outs_from hbv (hw.outs (List.Sublist.refl _))⟩)
      | (have hs : shOk xss ws gs x n = false := by first | (simp only [shOk, *, Bool.false_and, Bool.and_false, Bool.and_true]; done) | (simp only [shOk, normOk, least, *, Bool.false_and, Bool.and_false, Bool.and_true]; done)
         exact ⟨((none, 0), (none, 0)), by rw [shAD_no hs, shBD_no hs, hs]; rfl, hw.below, by rw [shAD_no hs, shBD_no hs]; simp [fl, Ent.at], by simp [Ent.apart]⟩)
  · skip
    replace h1 := bnot_f h1
    refine VL.r (.inr ⟨_, _, _, rfl, rfl, rfl⟩) rfl (by decide) (yr_move rfl rfl) ?_
    refine VL.q (.inr ⟨_, _, _, rfl, rfl, rfl⟩) rfl (by decide) (yq_callf rfl known42_Shared (.cons rfl .nil) (fun w hw => c_IsFinite _)) ?_
    refine VL.r (.inr ⟨_, _, _, rfl, rfl, rfl⟩) rfl (by decide) (yr_not rfl rfl) ?_
    refine VL.r (.inl rfl) rfl (by decide) (yr_pick_f rfl rfl rfl) ?_
    refine VL.r (.inl rfl) rfl (by decide) (yr_move rfl rfl) ?_
    refine VX.split 26 _ rfl (fun h3 => ?_) (fun h3 => ?_)
    · skip
      replace h3 := bnot_t h3
      refine VL.no rfl rfl rfl rfl rfl (by decide) ?_
      refine VL.no rfl rfl rfl rfl rfl (by decide) ?_
      refine VL.no rfl rfl rfl rfl rfl (by decide) ?_
      refine VL.r (.inl rfl) rfl (by decide) (yr_pick_t (u := .bool true) rfl rfl rfl) ?_
      refine VL.r (.inl rfl) rfl (by decide) (yr_move rfl rfl) ?_
      refine VL.no rfl rfl rfl rfl rfl (by decide) ?_
      refine VL.no rfl rfl rfl rfl rfl (by decide) ?_
      refine VL.no rfl rfl rfl rfl rfl (by decide) ?_
      refine VL.r (.inl rfl) rfl (by decide) (yr_pick_t (u := .bool true) rfl rfl rfl) ?_
      refine VL.nil ?_
      refine VE.then_wp ?_
      refine V.condT rfl ?_
      refine V.seq ?_
      refine V.region ?_
      refine VL.r (.inl rfl) rfl (by decide) (yr_assign (u := .slice none 0 0) rfl rfl) ?_
      refine VL.r (.inl rfl) rfl (by decide) (yr_assign (u := .slice none 0 0) rfl rfl) ?_
      refine VL.r (.inl rfl) rfl (by decide) (yr_assign (u := .bool false) rfl rfl) ?_
      refine VL.nil ?_
      refine VE.then_wp ?_
      refine V.ret ?_
      refine VE.then_ret ?_
      refine ret3 rfl rfl rfl rfl (by nofun) (by nofun) (by nofun) (fun w1 hw => ?_)
      first
        | (obtain rfl : j = (xss.getD 0 []).length := by omega
           exact ⟨((some ⟨b59, 0, none⟩, (xss.getD 0 []).length * (xss.getD 0 []).length), (some ⟨b61, 0, none⟩, (xss.getD 0 []).length)), by rw [shAD_yes hs, shBD_yes hs, hs, normA_length, normB_length] <;> rfl, by rw [shAD_yes hs, shBD_yes hs]; exact outs_from hbv (hw.outs (List.Sublist.refl _))⟩)
        | (have hs : shOk xss ws gs x n = false := by first | (simp only [shOk, *, Bool.false_and, Bool.and_false, Bool.and_true]; done) | (simp only [shOk, normOk, least, *, Bool.false_and, Bool.and_false, Bool.and_true]; done)
           exact ⟨((none, 0), (none, 0)), by rw [shAD_no hs, shBD_no hs, hs]; rfl, hw.below, by rw [shAD_no hs, shBD_no hs]; simp [fl, Ent.at], by simp [Ent.apart]⟩)
    · skip
      replace h3 := bnot_f h3
      refine VL.r (.inr ⟨_, _, _, rfl, rfl, rfl⟩) rfl (by decide) (yr_move rfl rfl) ?_
      refine VL.r (.inr ⟨_, _, _, rfl, rfl, rfl⟩) rfl (by decide) (yr_fcmp (b := 0) rfl (.inr (.inr (.inr (.inr (.inr rfl))))) rfl rfl) ?_
      refine VL.r (.inr ⟨_, _, _, rfl, rfl, rfl⟩) rfl (by decide) (yr_not rfl rfl) ?_
      refine VL.r (.inl rfl) rfl (by decide) (yr_pick_f rfl rfl rfl) ?_
      refine VL.r (.inl rfl) rfl (by decide) (yr_move rfl rfl) ?_
      refine VX.split 31 _ rfl (fun h5 => ?_) (fun h5 => ?_)
      · skip
        replace h5 := bnot_t h5
        refine VL.no rfl rfl rfl rfl rfl (by decide) ?_
        refine VL.no rfl rfl rfl rfl rfl (by decide) ?_
        refine VL.no rfl rfl rfl rfl rfl (by decide) ?_
        refine VL.r (.inl rfl) rfl (by decide) (yr_pick_t (u := .bool true) rfl rfl rfl) ?_
        refine VL.nil ?_
        refine VE.then_wp ?_
        refine V.condT rfl ?_
        refine V.seq ?_
        refine V.region ?_
        refine VL.r (.inl rfl) rfl (by decide) (yr_assign (u := .slice none 0 0) rfl rfl) ?_
        refine VL.r (.inl rfl) rfl (by decide) (yr_assign (u := .slice none 0 0) rfl rfl) ?_
        refine VL.r (.inl rfl) rfl (by decide) (yr_assign (u := .bool false) rfl rfl) ?_
        refine VL.nil ?_
        refine VE.then_wp ?_
        refine V.ret ?_
        refine VE.then_ret ?_
        refine ret3 rfl rfl rfl rfl (by nofun) (by nofun) (by nofun) (fun w1 hw => ?_)
        first
          | (obtain rfl : j = (xss.getD 0 []).length := by omega
             exact ⟨((some ⟨b59, 0, none⟩, (xss.getD 0 []).length * (xss.getD 0 []).length), (some ⟨b61, 0, none⟩, (xss.getD 0 []).length)), by rw [shAD_yes hs, shBD_yes hs, hs, normA_length, normB_length] <;> rfl, by rw [shAD_yes hs, shBD_yes hs]; exact outs_from hbv (hw.outs (List.Sublist.refl _))⟩)
          | (have hs : shOk xss ws gs x n = false := by first | (simp only [shOk, *, Bool.false_and, Bool.and_false, Bool.and_true]; done) | (simp only [shOk, normOk, least, *, Bool.false_and, Bool.and_false, Bool.and_true]; done)
             exact ⟨((none, 0), (none, 0)), by rw [shAD_no hs, shBD_no hs, hs]; rfl, hw.below, by rw [shAD_no hs, shBD_no hs]; simp [fl, Ent.at], by simp [Ent.apart]⟩)
      · skip
        replace h5 := bnot_f h5
        refine VL.q (.inr ⟨_, _, _, rfl, rfl, rfl⟩) rfl (by decide) (yq_load rfl fb2_Shared rfl zz0 rfl) ?_
        refine VL.q (.inr ⟨_, _, _, rfl, rfl, rfl⟩) rfl (by decide) (yq_callf rfl known43_Shared (.cons rfl (.cons rfl (.cons rfl .nil))) (fun w hw => c_within)) ?_
        refine VL.r (.inr ⟨_, _, _, rfl, rfl, rfl⟩) rfl (by decide) (yr_not rfl rfl) ?_
        refine VL.r (.inl rfl) rfl (by decide) (yr_pick_f rfl rfl rfl) ?_
        refine VL.nil ?_
        refine VE.then_wp ?_
        refine V.cond rfl (fun h7 => ?_) (fun h7 => ?_)
        · skip
          replace h7 := bnot_t h7
          refine V.seq ?_
          refine V.region ?_
          refine VL.r (.inl rfl) rfl (by decide) (yr_assign (u := .slice none 0 0) rfl rfl) ?_
          refine VL.r (.inl rfl) rfl (by decide) (yr_assign (u := .slice none 0 0) rfl rfl) ?_
          refine VL.r (.inl rfl) rfl (by decide) (yr_assign (u := .bool false) rfl rfl) ?_
          refine VL.nil ?_
          refine VE.then_wp ?_
          refine V.ret ?_
          refine VE.then_ret ?_
          refine ret3 rfl rfl rfl rfl (by nofun) (by nofun) (by nofun) (fun w1 hw => ?_)
          first
            | (obtain rfl : j = (xss.getD 0 []).length := by omega
               exact ⟨((some ⟨b59, 0, none⟩, (xss.getD 0 []).length * (xss.getD 0 []).length), (some ⟨b61, 0, none⟩, (xss.getD 0 []).length)), by rw [shAD_yes hs, shBD_yes hs, hs, normA_length, normB_length] <;> rfl, by rw [shAD_yes hs, shBD_yes hs]; exact outs_from hbv (hw.outs (List.Sublist.refl _))⟩)
            | (have hs : shOk xss ws gs x n = false := by first | (simp only [shOk, *, Bool.false_and, Bool.and_false, Bool.and_true]; done) | (simp only [shOk, normOk, least, *, Bool.false_and, Bool.and_false, Bool.and_true]; done)
               exact ⟨((none, 0), (none, 0)), by rw [shAD_no hs, shBD_no hs, hs]; rfl, hw.below, by rw [shAD_no hs, shBD_no hs]; simp [fl, Ent.at], by simp [Ent.apart]⟩)
        · skip
          replace h7 := bnot_f h7
          refine V.skip ?_
          refine VE.then_wp ?_
          refine V.seq ?_
          refine Dr.V.drawR [(0, 5), (1, 5), (3, 5), (4, 5), (2, 2), (6, 2), (7, 2), (8, 3), (5, 2), (9, 3)] [(2, ((fun b => .slice (some ⟨b, 0, none⟩) (blocksN xss.length) (blocksN xss.length)), (fun b => ⟨some ⟨b, 0, none⟩, cycle [Value.slice none 0 0] (blocksN xss.length), (blocksN xss.length) * 1, 23⟩))), (5, ((fun b => .slice (some ⟨b, 0, none⟩) (blocksN xss.length) (blocksN xss.length)), (fun b => ⟨some ⟨b, 0, none⟩, cycle [Value.slice none 0 0] (blocksN xss.length), (blocksN xss.length) * 1, 23⟩))), (6, ((fun b => .pointer (some (adr (some ⟨b, 0, none⟩) 0))), (fun b => ⟨some ⟨b, 0, none⟩, [Value.slice none 0 0], 1, 22⟩))), (7, ((fun b => .pointer (some (adr (some ⟨b, 0, none⟩) 0))), (fun b => ⟨some ⟨b, 0, none⟩, [Value.slice none 0 0], 1, 22⟩)))] [] _ mixed_Shared (by kernel_rfl) (fun w hw => hw) ?_
          refine Dr.SW.p rfl (.inl rfl) rfl (by decide) (yq_loadS rfl Try.underlying30 sz30_Shared rfl (by first | exact Sees.root (by assumption) | exact Sees.own (by (try simp only [List.append_assoc, List.cons_append, List.nil_append]); repeat (first | exact List.mem_cons_self | exact List.mem_append_left _ (by assumption) | apply List.mem_cons_of_mem | apply List.mem_append_right)) | exact Sees.root (hR _ (by omega)) | exact Sees.own (RowsIn.mem (by (try simp only [List.append_assoc, List.cons_append, List.nil_append]); repeat (first | exact RowsIn.here | exact RowsIn.last | apply RowsIn.there | apply RowsIn.thereS)) _ (by omega)) | exact Sees.own (WRowsIn.mem (by (try simp only [List.append_assoc, List.cons_append, List.nil_append]); repeat (first | exact WRowsIn.here | exact WRowsIn.last | apply WRowsIn.there | apply WRowsIn.thereS)) _ (by omega))) rfl rfl rfl) ?_
          refine Dr.SW.p rfl (.inl rfl) rfl (by decide) (yq_callf rfl known44_Shared (.cons rfl .nil) (fun w hw => (c_blocks (by omega)))) ?_
          refine Dr.SW.p rfl (.inl rfl) rfl (by decide) (yq_loadS rfl Try.underlying30 sz30_Shared rfl (by first | exact Sees.root (by assumption) | exact Sees.own (by (try simp only [List.append_assoc, List.cons_append, List.nil_append]); repeat (first | exact List.mem_cons_self | exact List.mem_append_left _ (by assumption) | apply List.mem_cons_of_mem | apply List.mem_append_right)) | exact Sees.root (hR _ (by omega)) | exact Sees.own (RowsIn.mem (by (try simp only [List.append_assoc, List.cons_append, List.nil_append]); repeat (first | exact RowsIn.here | exact RowsIn.last | apply RowsIn.there | apply RowsIn.thereS)) _ (by omega)) | exact Sees.own (WRowsIn.mem (by (try simp only [List.append_assoc, List.cons_append, List.nil_append]); repeat (first | exact WRowsIn.here | exact WRowsIn.last | apply WRowsIn.there | apply WRowsIn.thereS)) _ (by omega))) rfl rfl rfl) ?_
          refine Dr.SW.p rfl (.inl rfl) rfl (by decide) (yq_callf rfl known44_Shared (.cons rfl .nil) (fun w hw => (c_blocks (by omega)))) ?_
          refine Dr.SW.a rfl rfl rfl (by decide) rfl (fun w0 => (yn_makeSlicez 1 rfl rfl Try.underlying22 elt23_Shared rfl rfl rfl (by omega) (by omega))) ?_
          intro b38
          refine Dr.SW.a rfl rfl rfl (by decide) rfl (fun w0 => (yn_alloc rfl zero22_Shared rfl)) ?_
          intro b9
          refine Dr.SW.a rfl rfl rfl (by decide) rfl (fun w0 => (yn_alloc rfl zero22_Shared rfl)) ?_
          intro b10
          refine Dr.SW.s rfl (.inl rfl) rfl (yc_store rfl sz22_Shared rfl rfl (Dr.UpdF.app zz6) (.inl ⟨rfl, rfl⟩) rfl (by first | exact Nat.le_of_ble_eq_true rfl | simp) (by decide) rfl) ?_
          rintro ⟨⟩
          refine Dr.SW.a rfl rfl rfl (by decide) rfl (fun w0 => (yn_makeSlicez 1 rfl rfl Try.underlying22 elt23_Shared rfl rfl rfl (by omega) (by omega))) ?_
          intro b41
          refine Dr.SW.s rfl (.inl rfl) rfl (yc_store rfl sz22_Shared rfl rfl (Dr.UpdF.app zz6) (.inl ⟨rfl, rfl⟩) rfl (by first | exact Nat.le_of_ble_eq_true rfl | simp) (by decide) rfl) ?_
          rintro ⟨⟩
          refine Dr.SW.done ?_
          refine Dr.eqO (by simp only [List.append_nil, List.append_assoc, List.cons_append, List.nil_append] <;> rfl) ?_
          refine VE.then_wp ?_
          refine V.seq ?_
          refine V.region ?_
          refine VL.r (.inl rfl) rfl (by decide) (yr_build rfl lay76_Shared rfl .nil (by first | (simp; done) | (simp [vv]; done) | (simp [cn, cn1, cn0]; done)) rfl) ?_
          refine VL.new1 (.inl rfl) rfl (by decide) (yn_alloc rfl zero76_Shared rfl) ?_
          intro b11
          refine VL.s (.inl rfl) rfl (yc_store rfl sz76_Shared rfl rfl zz6 (.inr ⟨rfl, rfl⟩) rfl (by first | exact Nat.le_of_ble_eq_true rfl | simp) (by decide) rfl) ?_
          rintro ⟨⟩
          refine VL.nil ?_
          refine VE.then_wp ?_
          have hs : shOk xss ws gs x n = true := by first | (simp only [shOk, normOk, least, *, Bool.false_and, Bool.and_false, Bool.and_true]; done) | (simp only [shOk, normOk, *, Bool.false_and, Bool.and_false, Bool.and_true]; done)
          obtain ⟨n', rfl, hn1, hn8⟩ : ∃ n' : Nat, n = (n' : Int) ∧ 1 ≤ n' ∧ n' ≤ 8 := by
            have hd := of_decide_eq_true (Bool.and_eq_true_iff.1 hs).2
            exact ⟨n.toNat, by omega, by omega, by omega⟩
          have hval := ok_valid (sh_ok hs)
          refine fun a9 w9 h9 hw9 => workers17' (C := ⟨n', b3, b5, b9, b10, b38, b41, a, a1, a2, c, c1, c2, f, xss, ws, gs⟩) (Wg := b11) (x1 := x) hsz hval hn1 hn8 hA hR hW hG (.cons rfl (.cons rfl (.cons rfl (.cons rfl (.cons rfl (.cons rfl .nil)))))) (fun v' fA fB hbv hD => ?_) a9 w9 h9 (hw9.perm' (List.Perm.cons _ ((List.Perm.swap _ _ _).trans (List.Perm.cons _ (List.Perm.swap _ _ _)))))
          clear h9 hw9
          have hval2 := hval
          obtain ⟨v1, v2, v3, v4, v5, v6, v7, v8⟩ := hval
          have hnn : (xss.getD 0 []).length * (xss.getD 0 []).length ≤ 64 := Nat.mul_le_mul v8 v8
          have hix : ∀ {j k : Nat}, j < (xss.getD 0 []).length → k < (xss.getD 0 []).length → j * (xss.getD 0 []).length + k < (xss.getD 0 []).length * (xss.getD 0 []).length := idx_lt
          have hlA : ∀ k, (nmA xss gs (xss.getD 0 []).length k).length = (xss.getD 0 []).length * (xss.getD 0 []).length := nmA_length _ _ _
          have hlB : ∀ k, (nmB xss ws gs (xss.getD 0 []).length k).length = (xss.getD 0 []).length := nmB_length _ _ _ _
          obtain ⟨yA, hyl, hyg, hcA, hRA⟩ : ∃ yA : List (List Nat), yA.length = (blocksN xss.length) ∧ (∀ k, k < (blocksN xss.length) → yA.getD k [] = pcA xss gs (xss.getD 0 []).length k) ∧ Cl v' (some ⟨b38, 0, none⟩) (hd fA yA) ∧ Rws v' fA yA := ⟨_, by simp [WC.rA, WC.nb], fun k hk => rA_get hk, hD.cA, hD.rwA⟩
          obtain ⟨yB, hzl, hzg, hcB, hRB⟩ : ∃ yB : List (List Nat), yB.length = (blocksN xss.length) ∧ (∀ k, k < (blocksN xss.length) → yB.getD k [] = pcB xss ws gs (xss.getD 0 []).length k) ∧ Cl v' (some ⟨b41, 0, none⟩) (hd fB yB) ∧ Rws v' fB yB := ⟨_, by simp [WC.rB, WC.nb], fun k hk => rB_get hk, hD.cB, hD.rwB⟩
          have hq1 : Cl v' (some ⟨b3, 0, none⟩) [.slice a xss.length c, .slice a1 ws.length c1, .slice a2 gs.length c2] := hD.kn.h1
          have hq3 : Cl v' (some ⟨b9, 0, none⟩) [.slice (some ⟨b38, 0, none⟩) ((blocksN xss.length)) ((blocksN xss.length))] := hD.kn.h3
          have hq4 : Cl v' (some ⟨b10, 0, none⟩) [.slice (some ⟨b41, 0, none⟩) ((blocksN xss.length)) ((blocksN xss.length))] := hD.kn.h4
          have hvA : Cl v' a (hd f xss) := hD.kn.hA
          have hlp : ∀ k, k < (blocksN xss.length) → (yA.getD k []).length = (xss.getD 0 []).length * (xss.getD 0 []).length := fun k hk => by rw [hyg k hk]; exact blockA_length _ _ _ _ _
          have hlq : ∀ k, k < (blocksN xss.length) → (yB.getD k []).length = (xss.getD 0 []).length := fun k hk => by rw [hzg k hk]; exact blockB_length _ _ _ _ _ _
          have hstA : ∀ k, k < (blocksN xss.length) → addL (nmA xss gs (xss.getD 0 []).length k) (yA.getD k []) (yA.getD k []).length = nmA xss gs (xss.getD 0 []).length (k + 1) := fun k hk => by rw [hlp k hk, hyg k hk]; rfl
          have hstB : ∀ k, k < (blocksN xss.length) → addL (nmB xss ws gs (xss.getD 0 []).length k) (yB.getD k []) (yB.getD k []).length = nmB xss ws gs (xss.getD 0 []).length (k + 1) := fun k hk => by rw [hlq k hk, hzg k hk]; rfl
          clear hD
          show V _ _ v' [] [(44, .int .i64 (n' : Int)), (43, .int .i64 (n' : Int)), (11, .pointer (some (adr (some ⟨b11, 0, none⟩) 0))), (3, .pointer (some (adr (some ⟨b3, 0, none⟩) 0))), (5, .pointer (some (adr (some ⟨b5, 0, none⟩) 0))), (9, .pointer (some (adr (some ⟨b9, 0, none⟩) 0))), (10, .pointer (some (adr (some ⟨b10, 0, none⟩) 0))), (1, .float .f32 x)] _ _
          refine V.seq ?_
          refine V.region ?_
          refine VL.r (.inl rfl) rfl (by decide) (yr_fieldAddr rfl Try.underlying30 rfl rfl sz22_Shared (by decide) rfl) ?_
          refine VL.q (.inl rfl) rfl (by decide) (yq_load rfl fb22_Shared rfl zz0 rfl) ?_
          refine VL.q (.inl rfl) rfl (by decide) (yq_idx (k := 0) rfl Try.underlying22 sz23_Shared rfl rfl zz0 zz2 (by first | exact fl_length _ | (rw [hd_length]; assumption) | exact hd_length _ _ | (rw [fl_length, dgA_length]; exact hlA _)) (by first | omega | (rw [dgA_length, hlA]; omega))) ?_
          refine VL.q (.inl rfl) rfl (by decide) (yq_loadH rfl fb23_Shared rfl zz0 (by first | omega | (rw [dgA_length, hlA]; omega))) ?_
          refine VL.r (.inl rfl) rfl (by decide) (yr_len rfl Try.underlying23 rfl) ?_
          refine VL.r (.inl rfl) rfl (by decide) (yr_assign rfl rfl) ?_
          refine VL.nil ?_
          refine VE.then_wp ?_
          refine V.seq ?_
          refine Dr.V.drawR [(0, 5), (1, 5), (2, 5), (4, 5), (3, 2), (6, 5), (5, 2), (7, 5)] [(3, ((fun b => .slice (some ⟨b, 0, none⟩) ((xss.getD 0 []).length * (xss.getD 0 []).length) ((xss.getD 0 []).length * (xss.getD 0 []).length)), (fun b => ⟨some ⟨b, 0, none⟩, cycle [Value.float .f32 0] ((xss.getD 0 []).length * (xss.getD 0 []).length), ((xss.getD 0 []).length * (xss.getD 0 []).length) * 1, 26⟩))), (5, ((fun b => .slice (some ⟨b, 0, none⟩) (xss.getD 0 []).length (xss.getD 0 []).length), (fun b => ⟨some ⟨b, 0, none⟩, cycle [Value.float .f32 0] (xss.getD 0 []).length, (xss.getD 0 []).length * 1, 26⟩)))] [] _ mixed_Shared (by kernel_rfl) (fun w hw => hw) ?_
          refine Dr.SW.r rfl (.inl rfl) rfl (by decide) (yr_move rfl rfl) ?_
          refine Dr.SW.r rfl (.inl rfl) rfl (by decide) (yr_move rfl rfl) ?_
          refine Dr.SW.r rfl (.inl rfl) rfl (by decide) (yr_mulN (xss.getD 0 []).length (xss.getD 0 []).length rfl rfl rfl (by omega) (by omega) (Nat.le_trans (mul_small (by omega) (by omega)) (by decide))) ?_
          refine Dr.SW.r rfl (.inl rfl) rfl (by decide) (yr_move rfl rfl) ?_
          refine Dr.SW.a rfl rfl rfl (by decide) rfl (fun w0 => (yn_makeSlicez 1 rfl rfl Try.underlying23 elt26_Shared rfl rfl rfl (by omega) (by omega))) ?_
          intro b59
          refine Dr.SW.r rfl (.inl rfl) rfl (by decide) (yr_assign rfl rfl) ?_
          refine Dr.SW.a rfl rfl rfl (by decide) rfl (fun w0 => (yn_makeSlicez 1 rfl rfl Try.underlying23 elt26_Shared rfl rfl rfl (by omega) (by omega))) ?_
          intro b61
          refine Dr.SW.r rfl (.inl rfl) rfl (by decide) (yr_assign rfl rfl) ?_
          refine Dr.SW.done ?_
          refine Dr.eqO (by simp only [List.append_nil, List.append_assoc, List.cons_append, List.nil_append] <;> rfl) ?_
          refine VE.then_wp ?_
          refine V.seq ?_
          refine V.seq ?_
          refine V.region ?_
          refine VL.q (.inl rfl) rfl (by decide) (yq_load rfl fb22_Shared rfl zz0 rfl) ?_
          refine VL.r (.inl rfl) rfl (by decide) (yr_len rfl Try.underlying22 rfl) ?_
          refine VL.r (.inl rfl) rfl (by decide) (yr_move (u := .int .i64 0) rfl rfl) ?_
          refine VL.nil ?_
          refine VE.then_wp ?_
          refine V.block ?_
          refine V.loopc (G := Nat) [(1, _), (9, _), (10, _), (13, _), (14, _), (15, _), (63, _)] (fun (k : Nat) => k ≤ blocksN xss.length) (fun (k : Nat) => [⟨some ⟨b61, 0, none⟩, fl (nmB xss ws gs (xss.getD 0 []).length k), (xss.getD 0 []).length * 1, 26⟩, ⟨some ⟨b59, 0, none⟩, fl (nmA xss gs (xss.getD 0 []).length k), ((xss.getD 0 []).length * (xss.getD 0 []).length) * 1, 26⟩]) (fun (k : Nat) => [(64, .int .i64 (k : Int))]) (fun (k : Nat) => blocksN xss.length - k) 0 (.cons rfl (.cons rfl (.cons rfl (.cons rfl (.cons rfl (.cons rfl (.cons rfl .nil))))))) (.cons rfl .nil) ?_ ?_ ?_
          · exact (fun w hw => by rw [fl_zeros, fl_zeros] at hw; exact hw)
          · exact (by omega)
          rintro k hk
          show V _ _ _ [⟨some ⟨b61, 0, none⟩, fl (nmB xss ws gs (xss.getD 0 []).length k), (xss.getD 0 []).length * 1, 26⟩, ⟨some ⟨b59, 0, none⟩, fl (nmA xss gs (xss.getD 0 []).length k), ((xss.getD 0 []).length * (xss.getD 0 []).length) * 1, 26⟩] ([(64, .int .i64 (k : Int))] ++ [(1, _), (9, _), (10, _), (13, _), (14, _), (15, _), (63, _)]) _ _
          refine V.seq ?_
          refine V.region ?_
          refine VL.r (.inl rfl) rfl (by decide) (yr_icmp rfl (.inr (.inr (.inl rfl))) rfl rfl) ?_
          refine VL.nil ?_
          refine VE.then_wp ?_
          refine V.seq ?_
          refine V.cond rfl (fun h8 => ?_) (fun h8 => ?_)
          · skip
            replace h8 := ic_lss h8
            refine V.skip ?_
            refine VE.then_wp ?_
            refine V.seq ?_
            refine V.block ?_
            refine V.seq ?_
            refine V.region ?_
            refine VL.r (.inl rfl) rfl (by decide) (yr_move rfl rfl) ?_
            refine VL.r (.inl rfl) rfl (by decide) (yr_assign rfl rfl) ?_
            refine VL.nil ?_
            refine VE.then_wp ?_
            refine V.seq ?_
            refine V.region ?_
            refine VL.r (.inl rfl) rfl (by decide) (yr_move rfl rfl) ?_
            refine VL.q (.inl rfl) rfl (by decide) (yq_load rfl fb22_Shared rfl zz0 rfl) ?_
            refine VL.r (.inl rfl) rfl (by decide) (yr_move rfl rfl) ?_
            refine VL.q (.inl rfl) rfl (by decide) (yq_idx (k := k) rfl Try.underlying22 sz23_Shared rfl rfl zz0 zz2 (by first | exact fl_length _ | (rw [hd_length]; assumption) | exact hd_length _ _ | (rw [fl_length, dgA_length]; exact hlA _)) (by first | omega | (rw [dgA_length, hlA]; omega))) ?_
            refine VL.q (.inl rfl) rfl (by decide) (yq_loadH rfl fb23_Shared rfl zz0 (by first | omega | (rw [dgA_length, hlA]; omega))) ?_
            refine VL.c (.inl rfl) rfl (by decide) (yc_callf rfl known49_Shared (.cons rfl (.cons rfl .nil)) (by apply Pick.one; repeat (first | exact Rem.here | apply Rem.there | apply Rem.thereS)) (c_addLists (by first | exact hRA k (by omega) | exact hRB k (by omega)) (by first | exact hlA _ | exact hlB _) (by first | exact Nat.le_of_eq (hlp k (by omega)) | exact Nat.le_of_eq (hlq k (by omega))) (by omega))) ?_
            rintro ⟨⟩
            refine VL.nil ?_
            refine VE.then_wp ?_
            refine V.region ?_
            refine VL.r (.inl rfl) rfl (by decide) (yr_move rfl rfl) ?_
            refine VL.q (.inl rfl) rfl (by decide) (yq_load rfl fb22_Shared rfl zz0 rfl) ?_
            refine VL.r (.inl rfl) rfl (by decide) (yr_move rfl rfl) ?_
            refine VL.q (.inl rfl) rfl (by decide) (yq_idx (k := k) rfl Try.underlying22 sz23_Shared rfl rfl zz0 zz2 (by first | exact fl_length _ | (rw [hd_length]; assumption) | exact hd_length _ _ | (rw [fl_length, dgA_length]; exact hlA _)) (by first | omega | (rw [dgA_length, hlA]; omega))) ?_
            refine VL.q (.inl rfl) rfl (by decide) (yq_loadH rfl fb23_Shared rfl zz0 (by first | omega | (rw [dgA_length, hlA]; omega))) ?_
            refine VL.c (.inl rfl) rfl (by decide) (yc_callf rfl known49_Shared (.cons rfl (.cons rfl .nil)) (by apply Pick.one; repeat (first | exact Rem.here | apply Rem.there | apply Rem.thereS)) (c_addLists (by first | exact hRA k (by omega) | exact hRB k (by omega)) (by first | exact hlA _ | exact hlB _) (by first | exact Nat.le_of_eq (hlp k (by omega)) | exact Nat.le_of_eq (hlq k (by omega))) (by omega))) ?_
            rintro ⟨⟩
            refine VL.nil ?_
            refine VE.block_normal ?_
            refine VE.then_wp ?_
            refine V.region ?_
            refine VL.r (.inl rfl) rfl (by decide) (yr_int rfl rfl rfl (.inl ⟨rfl, wrap_in (by omega)⟩)) ?_
            refine VL.r (.inl rfl) rfl (by decide) (yr_move rfl rfl) ?_
            refine VL.nil ?_
            refine VE.round (k + 1) ?_ ?_ ?_ ?_ ?_
            · exact (.cons rfl .nil)
            · exact (.cons rfl (.cons rfl (.cons rfl (.cons rfl (.cons rfl (.cons rfl (.cons rfl .nil)))))))
            · exact (fun w hw => by rw [hstA k (by omega), hstB k (by omega)] at hw; exact hw)
            · omega
            · (try dsimp only); omega
          · skip
            replace h8 := ic_lss' h8
            refine V.exit ?_
            refine VE.then_exit ?_
            refine VE.then_exit ?_
            refine VE.block_here ?_
            refine VE.then_wp ?_
            refine V.seq ?_
            refine V.seq ?_
            refine V.region ?_
            refine VL.r (.inl rfl) rfl (by decide) (yr_move rfl rfl) ?_
            refine VL.r (.inl rfl) rfl (by decide) (yr_move (u := .int .i64 0) rfl rfl) ?_
            refine VL.nil ?_
            refine VE.then_wp ?_
            refine V.block ?_
            refine V.loopc (G := Nat) [(1, _), (13, _), (14, _), (15, _), (80, _)] (fun (j : Nat) => j ≤ (xss.getD 0 []).length) (fun (j : Nat) => [⟨some ⟨b61, 0, none⟩, fl (nmB xss ws gs (xss.getD 0 []).length (blocksN xss.length)), (xss.getD 0 []).length * 1, 26⟩, ⟨some ⟨b59, 0, none⟩, fl (dgA (nmA xss gs (xss.getD 0 []).length (blocksN xss.length)) x (xss.getD 0 []).length j), ((xss.getD 0 []).length * (xss.getD 0 []).length) * 1, 26⟩]) (fun (j : Nat) => [(81, .int .i64 (j : Int))]) (fun (j : Nat) => (xss.getD 0 []).length - j) 0 (.cons rfl (.cons rfl (.cons rfl (.cons rfl (.cons rfl .nil))))) (.cons rfl .nil) ?_ ?_ ?_
            · exact (fun w hw => by rw [show k = blocksN xss.length by omega] at hw; exact hw)
            · exact (by omega)
            rintro j hj
            show V _ _ _ [⟨some ⟨b61, 0, none⟩, fl (nmB xss ws gs (xss.getD 0 []).length (blocksN xss.length)), (xss.getD 0 []).length * 1, 26⟩, ⟨some ⟨b59, 0, none⟩, fl (dgA (nmA xss gs (xss.getD 0 []).length (blocksN xss.length)) x (xss.getD 0 []).length j), ((xss.getD 0 []).length * (xss.getD 0 []).length) * 1, 26⟩] ([(81, .int .i64 (j : Int))] ++ [(1, _), (13, _), (14, _), (15, _), (80, _)]) _ _
            have hjj := fun (h : j < (xss.getD 0 []).length) => hix h h
            refine V.seq ?_
            refine V.region ?_
            refine VL.r (.inl rfl) rfl (by decide) (yr_icmp rfl (.inr (.inr (.inl rfl))) rfl rfl) ?_
            refine VL.nil ?_
            refine VE.then_wp ?_
            refine V.seq ?_
            refine V.cond rfl (fun h9 => ?_) (fun h9 => ?_)
            · skip
              replace h9 := ic_lss h9
              refine V.skip ?_
              refine VE.then_wp ?_
              refine V.seq ?_
              refine V.block ?_
              refine V.seq ?_
              refine V.region ?_
              refine VL.r (.inl rfl) rfl (by decide) (yr_move rfl rfl) ?_
              refine VL.r (.inl rfl) rfl (by decide) (yr_assign rfl rfl) ?_
              refine VL.nil ?_
              refine VE.then_wp ?_
              refine V.region ?_
              refine VL.r (.inl rfl) rfl (by decide) (yr_move rfl rfl) ?_
              refine VL.r (.inl rfl) rfl (by decide) (yr_move rfl rfl) ?_
              refine VL.r (.inl rfl) rfl (by decide) (yr_move rfl rfl) ?_
              refine VL.r (.inl rfl) rfl (by decide) (yr_mulN j (xss.getD 0 []).length rfl rfl rfl (by omega) (by omega) (Nat.le_trans (mul_small (by omega) (by omega)) (by decide))) ?_
              refine VL.r (.inl rfl) rfl (by decide) (yr_move rfl rfl) ?_
              refine VL.r (.inl rfl) rfl (by decide) (yr_int rfl rfl rfl (.inl ⟨rfl, wrap_in (by omega)⟩)) ?_
              refine VL.r (.inl rfl) rfl (by decide) (yr_move rfl rfl) ?_
              refine VL.r (.inl rfl) rfl (by decide) (yr_move rfl rfl) ?_
              refine VL.r (.inl rfl) rfl (by decide) (yr_move rfl rfl) ?_
              refine VL.r (.inl rfl) rfl (by decide) (yr_mulN j (xss.getD 0 []).length rfl rfl rfl (by omega) (by omega) (Nat.le_trans (mul_small (by omega) (by omega)) (by decide))) ?_
              refine VL.r (.inl rfl) rfl (by decide) (yr_move rfl rfl) ?_
              refine VL.r (.inl rfl) rfl (by decide) (yr_int rfl rfl rfl (.inl ⟨rfl, wrap_in (by omega)⟩)) ?_
              refine VL.q (.inl rfl) rfl (by decide) (yq_idx (k := ((j * (xss.getD 0 []).length) + j)) rfl Try.underlying23 sz26_Shared rfl rfl zz0 zz2 (by first | exact fl_length _ | (rw [hd_length]; assumption) | exact hd_length _ _ | (rw [fl_length, dgA_length]; exact hlA _)) (by first | omega | (rw [dgA_length, hlA]; omega))) ?_
              refine VL.q (.inl rfl) rfl (by decide) (yq_loadF rfl fb26_Shared rfl zz0 (by first | omega | (rw [dgA_length, hlA]; omega))) ?_
              refine VL.r (.inl rfl) rfl (by decide) (yr_move rfl rfl) ?_
              refine VL.r (.inl rfl) rfl (by decide) (yr_float rfl (.inl rfl) rfl rfl) ?_
              refine VL.q (.inl rfl) rfl (by decide) (yq_idx (k := ((j * (xss.getD 0 []).length) + j)) rfl Try.underlying23 sz26_Shared rfl rfl zz0 zz2 (by first | exact fl_length _ | (rw [hd_length]; assumption) | exact hd_length _ _ | (rw [fl_length, dgA_length]; exact hlA _)) (by first | omega | (rw [dgA_length, hlA]; omega))) ?_
              refine VL.s (.inl rfl) rfl (yc_store rfl sz26_Shared rfl rfl zz6 (.inl ⟨rfl, rfl⟩) rfl (by rw [fl_length, dgA_length, hlA]; omega) (by decide) (fl_set _ _ _)) ?_
              rintro ⟨⟩
              refine VL.nil ?_
              refine VE.block_normal ?_
              refine VE.then_wp ?_
              refine V.region ?_
              refine VL.r (.inl rfl) rfl (by decide) (yr_int rfl rfl rfl (.inl ⟨rfl, wrap_in (by omega)⟩)) ?_
              refine VL.r (.inl rfl) rfl (by decide) (yr_move rfl rfl) ?_
              refine VL.nil ?_
              refine VE.round (j + 1) ?_ ?_ ?_ ?_ ?_
              · exact (.cons rfl .nil)
              · exact (.cons rfl (.cons rfl (.cons rfl (.cons rfl (.cons rfl .nil)))))
              · exact (fun w hw => hw)
              · omega
              · (try dsimp only); omega
            · skip
              replace h9 := ic_lss' h9
              refine V.exit ?_
              refine VE.then_exit ?_
              refine VE.then_exit ?_
              refine VE.block_here ?_
              refine VE.then_wp ?_
              refine V.seq ?_
              refine V.region ?_
              refine VL.r (.inl rfl) rfl (by decide) (yr_move rfl rfl) ?_
              refine VL.r (.inl rfl) rfl (by decide) (yr_move rfl rfl) ?_
              refine VL.r (.inl rfl) rfl (by decide) (yr_assign rfl rfl) ?_
              refine VL.r (.inl rfl) rfl (by decide) (yr_assign rfl rfl) ?_
              refine VL.r (.inl rfl) rfl (by decide) (yr_assign (u := .bool true) rfl rfl) ?_
              refine VL.nil ?_
              refine VE.then_wp ?_
              refine V.ret ?_
              refine ret3 rfl rfl rfl rfl (by nofun) (by nofun) (by nofun) (fun w1 hw => ?_)
              first
                | (obtain rfl : j = (xss.getD 0 []).length := by omega
                   exact ⟨((some ⟨b59, 0, none⟩, (xss.getD 0 []).length * (xss.getD 0 []).length), (some ⟨b61, 0, none⟩, (xss.getD 0 []).length)), by rw [shAD_yes hs, shBD_yes hs, hs, normA_length, normB_length] <;> rfl, by rw [shAD_yes hs, shBD_yes hs]; exact outs_from hbv (hw.outs (List.Sublist.refl _))⟩)
                | (have hs : shOk xss ws gs x n = false := by first | (simp only [shOk, *, Bool.false_and, Bool.and_false, Bool.and_true]; done) | (simp only [shOk, normOk, least, *, Bool.false_and, Bool.and_false, Bool.and_true]; done)
                   exact ⟨((none, 0), (none, 0)), by rw [shAD_no hs, shBD_no hs, hs]; rfl, hw.below, by rw [shAD_no hs, shBD_no hs]; simp [fl, Ent.at], by simp [Ent.apart]⟩)
theorem c_implNorm {w : World} {a a1 a2 : Option Addr} {c c1 c2 : Nat} {f : Nat → Option Addr × Nat} {xss : List (List Nat)} {ws gs : List Nat} {x : Nat} (hA : Cl w a (hd f xss)) (hR : Rws w f xss) (hW : Cl w a1 (fl ws)) (hG : Cl w a2 (fl gs)) (hsz : bulk xss + ws.length + gs.length ≤ 1050000) : New Try.prog 10 [.agg #[.slice a xss.length c, .slice a1 ws.length c1, .slice a2 gs.length c2], .float .f32 x] w (fun p : (Option Addr × Nat) × (Option Addr × Nat) => .tuple #[.slice p.1.1 (normAD xss ws gs x).length p.1.2, .slice p.2.1 (normBD xss ws gs x).length p.2.2, .bool (normOk xss ws gs x)]) (fun p => [⟨p.2.1, fl (normBD xss ws gs x), p.2.2 * 1, 26⟩, ⟨p.1.1, fl (normAD xss ws gs x), p.1.2 * 1, 26⟩]) := by
  refine New.enter Try.func10 rfl Try.ntmps10 (Nat.le_of_ble_eq_true rfl) ?_
  have hr : ∀ i, i < xss.length → (xss.getD i []).length ≤ 1050000 := fun i hi => by have := bulk_row hi; omega
  have hxl : xss.length ≤ bulk xss := by unfold bulk; omega
  refine V.seq ?_
  refine V.region ?_
  refine VL.new1 (.inl rfl) rfl (by decide) (yn_box rfl rfl (.inr ⟨rfl, rfl⟩)) ?_
  intro b2
  refine VL.r (.inl rfl) rfl (by decide) (yr_assign (u := .slice none 0 0) rfl rfl) ?_
  refine VL.r (.inl rfl) rfl (by decide) (yr_assign (u := .slice none 0 0) rfl rfl) ?_
  refine VL.r (.inl rfl) rfl (by decide) (yr_assign (u := .bool false) rfl rfl) ?_
  refine VL.nil ?_
  refine VE.then_wp ?_
  refine V.seq ?_
  refine V.region ?_
  refine VL.q (.inl rfl) rfl (by decide) (yq_loadS rfl Try.underlying30 sz30_Shared rfl zz0 rfl rfl rfl) ?_
  refine VL.r (.inl rfl) rfl (by decide) (yr_move rfl rfl) ?_
  refine VL.new (.inl rfl) rfl (by decide) (yn_callf rfl known17_Shared (.cons rfl (.cons rfl (.cons rfl .nil))) (fun w hw => (c_implShared zz1 zz3 zz1 zz1 (by omega)))) ?_
  rintro ⟨⟨a9, c9⟩, ⟨d9, e9⟩⟩
  refine VL.r (.inl rfl) rfl (by decide) (yr_extract rfl rfl rfl (by nofun)) ?_
  refine VL.r (.inl rfl) rfl (by decide) (yr_extract rfl rfl rfl (by nofun)) ?_
  refine VL.r (.inl rfl) rfl (by decide) (yr_extract rfl rfl rfl (by nofun)) ?_
  refine VL.r (.inl rfl) rfl (by decide) (yr_assign rfl rfl) ?_
  refine VL.r (.inl rfl) rfl (by decide) (yr_assign rfl rfl) ?_
  refine VL.r (.inl rfl) rfl (by decide) (yr_assign rfl rfl) ?_
  refine VL.nil ?_
  refine VE.then_wp ?_
  refine V.ret ?_
  refine ret3 rfl rfl rfl rfl (by nofun) (by nofun) (by nofun) (fun w1 hw => ?_)
  obtain ⟨q1, q2, q3⟩ := sh_norm (xss := xss) (ws := ws) (gs := gs) (x := x) (n := 1) (by decide)
  exact ⟨((a9, c9), (d9, e9)), by rw [q1, q2, q3] <;> rfl, by rw [← q2, ← q3]; exact hw.outs (((List.nil_sublist _).cons_cons _).cons_cons _)⟩
end Go.Proofs.Ytgeflnjjppgooaa.Q

namespace Go.Proofs.Ytgeflnjjppgooaa
theorem rootFrom_lt (n : Nat) : ∀ (todo root : Nat), Ieee.Datum.rootFrom n todo root < root + 2 ^ todo
  | 0, root => by simp [Ieee.Datum.rootFrom]
  | todo + 1, root => by
    have h1 := rootFrom_lt n todo (root + 1 <<< todo)
    have h2 := rootFrom_lt n todo root
    simp only [Ieee.Datum.rootFrom]
    rw [Nat.shiftLeft_eq, Nat.one_mul] at h1 ⊢
    rw [Nat.pow_succ]
    split <;> omega
theorem fover_sqrt (y : Nat) : fover .f64 .f32 (fsqrt (up y)) = false := by
  have hq : fover .f64 .f32 (qn .f64) = false := by decide
  cases hd : FloatKind.f32.decode y with
  | nan s f =>
    have hn : fnan .f32 y = true := by unfold fnan; rw [hd]; rfl
    rw [up_nan hn]
    decide
  | infinity s =>
    have hu : up y = Ieee.double.word s Ieee.double.infRung := by
      unfold up fconv; rw [if_neg (by decide), hd]; rfl
    rw [hu]
    cases s <;> decide
  | number s m e =>
    obtain ⟨g1, g2, g3⟩ := read32 hd
    have hu : up y = FloatKind.f64.encode (.number s m e) := by
      unfold up fconv; rw [if_neg (by decide), hd]
    have hml : m.log2 ≤ 23 := by
      by_cases h0 : m = 0
      · subst h0; decide
      · have := (Nat.log2_lt h0).2 g1
        omega
    obtain ⟨m', e', k1, k2⟩ := encode_small s (m := m) (e := e) (t := 1149) (by omega) (by decide)
    rw [← hu] at k1
    obtain ⟨b1, b2, b3, _⟩ := decode_double_bound k1
    have k1' : Ieee.double.read (up y) = .number s m' e' := k1
    unfold fsqrt Ieee.Format.sqrt
    rw [k1']
    simp only [Ieee.Datum.root]
    split
    · rename_i h0
      subst h0
      obtain ⟨m2, e2, k3, k4⟩ := encode_small s (m := 0) (e := e') (t := 0) (by have : (0 : Nat).log2 = 0 := by decide
                                                                                omega) (by decide)
      exact fover_small k3 (by omega)
    · rename_i h0
      split
      · exact hq
      · simp only [Option.map_some, Option.getD_some]
        generalize hmore : 2 * (Ieee.double.fractionBits + 2) - m'.log2 + ((e' - ((2 * (Ieee.double.fractionBits + 2) - m'.log2 : Nat) : Int)) % 2).toNat = more
        have hn : (m' <<< more).log2 = m'.log2 + more := by rw [shl_eq, log2_mul_pow h0]
        have hr := rootFrom_lt (m' <<< more) ((m' <<< more).log2 / 2 + 1) 0
        generalize Ieee.Datum.rootFrom (m' <<< more) ((m' <<< more).log2 / 2 + 1) 0 = whole at hr ⊢
        rw [hn, Nat.zero_add] at hr
        generalize hb : (whole * whole != m' <<< more).toNat = bit
        have hb1 : bit ≤ 1 := by rw [← hb]; cases (whole * whole != m' <<< more) <;> decide
        have hlog : (2 * whole + bit).log2 ≤ (m'.log2 + more) / 2 + 1 := by
          by_cases hz : 2 * whole + bit = 0
          · rw [hz]; have : (0 : Nat).log2 = 0 := by decide
            omega
          · have : 2 * whole + bit < 2 ^ ((m'.log2 + more) / 2 + 2) := by
              rw [Nat.pow_succ]; omega
            have := (Nat.log2_lt hz).2 this
            omega
        obtain ⟨m2, e2, k3, k4⟩ := encode_small false (m := 2 * whole + bit) (e := (e' - (more : Int)) / 2 - 1) (t := 1090) (by omega) (by decide)
        exact fover_small k3 (by omega)
def sqrt32 (x : Nat) : Nat := fconv .f64 .f32 (fsqrt (fconv .f32 .f64 x))
end Go.Proofs.Ytgeflnjjppgooaa

namespace Go.Proofs.Ytgeflnjjppgooaa
def cS (a l : List Nat) (n j : Nat) : Nat → Nat
  | 0 => a.getD (j * n + j) 0
  | k + 1 => fop .sub .f32 (cS a l n j k) (fop .mul .f32 (l.getD (j * n + k) 0) (l.getD (j * n + k) 0))
def cX (a l : List Nat) (n i j : Nat) : Nat → Nat
  | 0 => a.getD (i * n + j) 0
  | k + 1 => fop .sub .f32 (cX a l n i j k) (fop .mul .f32 (l.getD (i * n + k) 0) (l.getD (j * n + k) 0))
def cCol (a : List Nat) (n j : Nat) (l0 : List Nat) : Nat → List Nat
  | 0 => l0
  | c + 1 => (cCol a n j l0 c).set ((j + 1 + c) * n + j) (fop .quo .f32 (cX a (cCol a n j l0 c) n (j + 1 + c) j j) ((cCol a n j l0 c).getD (j * n + j) 0))
def chol (a : List Nat) (n : Nat) : Nat → List Nat
  | 0 => List.replicate (n * n) 0
  | j + 1 => cCol a n j ((chol a n j).set (j * n + j) (sqrt32 (cS a (chol a n j) n j j))) (n - (j + 1))
def cholOk (a : List Nat) (n : Nat) : Bool := decide (n ≠ 0) && (List.range n).all (fun j => fcmp .gtr .f32 (cS a (chol a n j) n j j) 0)
def cholOf (a : List Nat) (n : Nat) : List Nat := if cholOk a n then chol a n n else []
theorem cCol_length (a : List Nat) (n j : Nat) (l0 : List Nat) : ∀ c, (cCol a n j l0 c).length = l0.length
  | 0 => rfl
  | c + 1 => by rw [cCol, List.length_set, cCol_length a n j l0 c]
theorem chol_length (a : List Nat) (n : Nat) : ∀ j, (chol a n j).length = n * n
  | 0 => by simp [chol]
  | j + 1 => by rw [chol, cCol_length, List.length_set, chol_length a n j]
theorem length_cholOf {a : List Nat} {n : Nat} (h : n ≤ 8) : (cholOf a n).length ≤ 64 := by
  unfold cholOf
  split
  · rw [chol_length]; exact Nat.mul_le_mul h h
  · simp
theorem chol_no0 {a : List Nat} {n : Nat} (h : n = 0) : cholOk a n = false := by simp [cholOk, h]
theorem chol_no1 {a : List Nat} {n j : Nat} (hj : j < n) (h : fcmp .gtr .f32 (cS a (chol a n j) n j j) 0 = false) : cholOk a n = false := by
  have : (List.range n).all (fun j => fcmp .gtr .f32 (cS a (chol a n j) n j j) 0) = false := by
    rw [Bool.eq_false_iff]
    intro ha
    have := List.all_eq_true.1 ha j (by simpa using hj)
    rw [h] at this
    cases this
  simp only [cholOk, this, Bool.and_false]
theorem chol_yes {a : List Nat} {n : Nat} (h0 : n ≠ 0) (h2 : ∀ j, j < n → fcmp .gtr .f32 (cS a (chol a n j) n j j) 0 = true) : cholOk a n = true := by
  have : (List.range n).all (fun j => fcmp .gtr .f32 (cS a (chol a n j) n j j) 0) = true := by
    rw [List.all_eq_true]
    intro j hj
    exact h2 j (by simpa using hj)
  simp only [cholOk, this, h0, ne_eq, not_false_eq_true, decide_true, Bool.and_true]
theorem cholOf_no {a : List Nat} {n : Nat} (h : cholOk a n = false) : cholOf a n = [] := by simp [cholOf, h]
theorem cholOf_yes {a : List Nat} {n : Nat} (h : cholOk a n = true) : cholOf a n = chol a n n := by simp [cholOf, h]
end Go.Proofs.Ytgeflnjjppgooaa

namespace Go.Proofs.Ytgeflnjjppgooaa.Q
end Go.Proofs.Ytgeflnjjppgooaa.Q

namespace Go.Proofs.Ytgeflnjjppgooaa.Q
end Go.Proofs.Ytgeflnjjppgooaa.Q

namespace Go.Proofs.Ytgeflnjjppgooaa.Q
open Go.RowKit
set_option linter.unusedVariables false
set_option linter.unusedSimpArgs false
set_option maxRecDepth 20000
set_option maxHeartbeats 800000
attribute [local irreducible] wqList Wq
theorem ext110_Chol : ExtF Try.prog 110 Extern.MathSqrt.sqrt := ⟨_, Try.func110, by kernel_rfl, by kernel_rfl, by kernel_rfl, by kernel_rfl⟩
theorem known91_Chol : Known Try.prog 91 := Known.mk' Try.func91 (by kernel_rfl)
theorem known109_Chol : Known Try.prog 109 := Known.mk' Try.func109 (by kernel_rfl)
theorem elt26_Chol : Elt Try.prog 26 [Value.float .f32 0] 4 := Elt.mk' (by kernel_rfl) (by decide)
theorem sz26_Chol : (Try.prog.info? 26).map (·.size) = some 1 := by kernel_rfl
theorem fb26_Chol : flatB Try.prog 26 = true := by kernel_rfl
theorem mixed_Chol : Try.prog.follows .mixedOrders = true := by kernel_rfl
theorem known86_Chol : Known Try.prog 86 := Known.mk' Try.func86 (by kernel_rfl)
theorem known58_Chol : Known Try.prog 58 := Known.mk' Try.func58 (by kernel_rfl)
theorem known59_Chol : Known Try.prog 59 := Known.mk' Try.func59 (by kernel_rfl)
theorem c_Sqrt [PhC] {w : World} (x : Nat) : Pure Try.prog 91 [.float .f64 x] w (.float .f64 (fsqrt x)) := by
  refine Pure.enter Try.func91 rfl Try.ntmps91 (Nat.le_of_ble_eq_true rfl) ?_
  refine V.seq ?_
  refine V.region ?_
  refine VL.r (.inl rfl) rfl (by decide) (yr_assign (u := .float .f64 0) rfl rfl) ?_
  refine VL.nil ?_
  refine VE.then_wp ?_
  refine V.seq ?_
  refine V.region ?_
  refine VL.r (.inl rfl) rfl (by decide) (yr_move rfl rfl) ?_
  refine VL.q (.inl rfl) rfl (by decide) (yq_ext rfl ext110_Chol (.cons rfl .nil) (fun vs w h => ext_sqrt vs w h)) ?_
  refine VL.r (.inl rfl) rfl (by decide) (yr_assign rfl rfl) ?_
  refine VL.nil ?_
  refine VE.then_wp ?_
  refine V.ret ?_
  refine ret1 rfl rfl (fun w1 hw => ?_)
  exact ⟨rfl, hw.below⟩
theorem c_RootNumber [PhC] {w : World} (x : Nat) : Pure Try.prog 59 [.float .f32 x] w (.float .f32 (sqrt32 x)) := by
  refine Pure.enter Try.func59 rfl Try.ntmps59 (Nat.le_of_ble_eq_true rfl) ?_
  refine V.seq ?_
  refine V.region ?_
  refine VL.r (.inl rfl) rfl (by decide) (yr_assign (u := .float .f32 0) rfl rfl) ?_
  refine VL.nil ?_
  refine VE.then_wp ?_
  refine V.seq ?_
  refine V.region ?_
  refine VL.r (.inl rfl) rfl (by decide) (yr_move rfl rfl) ?_
  refine VL.r (.inl rfl) rfl (by decide) (yr_fconv rfl Try.underlying26 Try.underlying51 (by decide) rfl (fover_up _)) ?_
  refine VL.q (.inl rfl) rfl (by decide) (yq_callf rfl known91_Chol (.cons rfl .nil) (fun w hw => c_Sqrt _)) ?_
  refine VL.r (.inl rfl) rfl (by decide) (yr_fconv rfl Try.underlying51 Try.underlying26 (by decide) rfl (fover_sqrt _)) ?_
  refine VL.r (.inl rfl) rfl (by decide) (yr_assign rfl rfl) ?_
  refine VL.nil ?_
  refine VE.then_wp ?_
  refine V.ret ?_
  refine ret1 rfl rfl (fun w1 hw => ?_)
  exact ⟨rfl, hw.below⟩
theorem c_l01Narrow [PhC] {w : World} {x : Nat} (hx : fover .f64 .f32 x = false) : Pure Try.prog 109 [.float .f64 x] w (.float .f32 (fconv .f64 .f32 x)) := by
  refine Pure.enter Try.func109 rfl Try.ntmps109 (Nat.le_of_ble_eq_true rfl) ?_
  refine V.seq ?_
  refine V.region ?_
  refine VL.r (.inl rfl) rfl (by decide) (yr_assign (u := .float .f32 0) rfl rfl) ?_
  refine VL.nil ?_
  refine VE.then_wp ?_
  refine V.seq ?_
  refine V.region ?_
  refine VL.r (.inl rfl) rfl (by decide) (yr_move rfl rfl) ?_
  refine VL.r (.inl rfl) rfl (by decide) (yr_fconv rfl Try.underlying51 Try.underlying26 (by decide) rfl hx) ?_
  refine VL.r (.inl rfl) rfl (by decide) (yr_assign rfl rfl) ?_
  refine VL.nil ?_
  refine VE.then_wp ?_
  refine V.ret ?_
  refine ret1 rfl rfl (fun w1 hw => ?_)
  exact ⟨rfl, hw.below⟩
theorem c_l01Sqrt [PhC] {w : World} (x : Nat) : Pure Try.prog 86 [.float .f32 x] w (.float .f32 (sqrt32 x)) := by
  refine Pure.enter Try.func86 rfl Try.ntmps86 (Nat.le_of_ble_eq_true rfl) ?_
  refine V.seq ?_
  refine V.region ?_
  refine VL.r (.inl rfl) rfl (by decide) (yr_assign (u := .float .f32 0) rfl rfl) ?_
  refine VL.nil ?_
  refine VE.then_wp ?_
  refine V.seq ?_
  refine V.region ?_
  refine VL.r (.inl rfl) rfl (by decide) (yr_move rfl rfl) ?_
  refine VL.r (.inl rfl) rfl (by decide) (yr_fconv rfl Try.underlying26 Try.underlying51 (by decide) rfl (fover_up _)) ?_
  refine VL.q (.inl rfl) rfl (by decide) (yq_callf rfl known91_Chol (.cons rfl .nil) (fun w hw => c_Sqrt _)) ?_
  refine VL.q (.inl rfl) rfl (by decide) (yq_callf rfl known109_Chol (.cons rfl .nil) (fun w hw => c_l01Narrow (fover_sqrt _))) ?_
  refine VL.r (.inl rfl) rfl (by decide) (yr_assign rfl rfl) ?_
  refine VL.nil ?_
  refine VE.then_wp ?_
  refine V.ret ?_
  refine ret1 rfl rfl (fun w1 hw => ?_)
  exact ⟨rfl, hw.below⟩
theorem c_l07Cholesky [PhC] {w : World} {a : Option Addr} {c n : Nat} {xs : List Nat} (hA : Cl w a (fl xs)) (hxs : xs.length = n * n) (hn8 : n ≤ 8) (hn0 : n ≠ 0) : New Try.prog 50 [.slice a xs.length c, .int .i64 (n : Int)] w (fun p : Option Addr × Nat => .tuple #[.slice p.1 (cholOf xs n).length p.2, .bool (cholOk xs n)]) (fun p => [⟨p.1, fl (cholOf xs n), p.2 * 1, 26⟩]) := by
  have hnn : n * n ≤ 64 := Nat.mul_le_mul hn8 hn8
  have hix : ∀ {j k : Nat}, j < n → k < n → j * n + k < n * n := idx_lt
  refine New.enter Try.func50 rfl Try.ntmps50 (Nat.le_of_ble_eq_true rfl) ?_
  refine V.seq ?_
  refine V.region ?_
  refine VL.r (.inl rfl) rfl (by decide) (yr_assign (u := .slice none 0 0) rfl rfl) ?_
  refine VL.r (.inl rfl) rfl (by decide) (yr_assign (u := .bool false) rfl rfl) ?_
  refine VL.nil ?_
  refine VE.then_wp ?_
  refine V.seq ?_
  refine V.region ?_
  refine VL.r (.inl rfl) rfl (by decide) (yr_move rfl rfl) ?_
  refine VL.r (.inl rfl) rfl (by decide) (yr_move rfl rfl) ?_
  refine VL.r (.inl rfl) rfl (by decide) (yr_mulN n n rfl rfl rfl (by omega) (by omega) (Nat.le_trans (mul_small (by omega) (by omega)) (by decide))) ?_
  refine VL.new1 (.inl rfl) rfl (by decide) (yn_makeSlicez 1 rfl rfl Try.underlying23 elt26_Chol rfl rfl rfl (by omega) (by omega)) ?_
  intro b16
  refine VL.r (.inl rfl) rfl (by decide) (yr_assign rfl rfl) ?_
  refine VL.nil ?_
  refine VE.then_wp ?_
  refine V.seq ?_
  refine V.seq ?_
  refine V.region ?_
  refine VL.r (.inl rfl) rfl (by decide) (yr_assign (u := .int .i64 0) rfl rfl) ?_
  refine VL.nil ?_
  refine VE.then_wp ?_
  refine V.block ?_
  refine V.loopc (G := Nat × (List Nat)) [(0, _), (1, _), (6, _)] (fun ⟨j, l⟩ => j ≤ n ∧ l.length = n * n ∧ l = chol xs n j ∧ ∀ t, t < j → fcmp .gtr .f32 (cS xs (chol xs n t) n t t) 0 = true) (fun ⟨j, l⟩ => [⟨some ⟨b16, 0, none⟩, fl l, n * n * 1, 26⟩]) (fun ⟨j, l⟩ => [(7, .int .i64 (j : Int))]) (fun ⟨j, l⟩ => n - j) (0, List.replicate (n * n) 0) (.cons rfl (.cons rfl (.cons rfl .nil))) (.cons rfl .nil) ?_ ?_ ?_
  · exact (fun w hw => by rw [fl_zeros] at hw; exact hw)
  · exact (by exact ⟨by omega, by simp, rfl, fun t h => by omega⟩)
  rintro ⟨j, l⟩ ⟨hj, hll, hl, hc⟩
  show V _ _ _ [⟨some ⟨b16, 0, none⟩, fl l, n * n * 1, 26⟩] ([(7, .int .i64 (j : Int))] ++ [(0, _), (1, _), (6, _)]) _ _
  have hjj : j < n → j * n + j < n * n := fun h => hix h h
  refine V.seq ?_
  refine V.seq ?_
  refine V.region ?_
  refine VL.r (.inl rfl) rfl (by decide) (yr_move rfl rfl) ?_
  refine VL.r (.inl rfl) rfl (by decide) (yr_move rfl rfl) ?_
  refine VL.r (.inl rfl) rfl (by decide) (yr_icmp rfl (.inr (.inr (.inl rfl))) rfl rfl) ?_
  refine VL.nil ?_
  refine VE.then_wp ?_
  refine V.cond rfl (fun h1 => ?_) (fun h1 => ?_)
  · skip
    replace h1 := ic_lss h1
    refine V.skip ?_
    refine VE.then_wp ?_
    refine V.seq ?_
    refine V.block ?_
    refine V.seq ?_
    refine V.region ?_
    refine VL.r (.inl rfl) rfl (by decide) (yr_move rfl rfl) ?_
    refine VL.r (.inl rfl) rfl (by decide) (yr_move rfl rfl) ?_
    refine VL.r (.inl rfl) rfl (by decide) (yr_move rfl rfl) ?_
    refine VL.r (.inl rfl) rfl (by decide) (yr_mulN j n rfl rfl rfl (by omega) (by omega) (Nat.le_trans (mul_small (by omega) (by omega)) (by decide))) ?_
    refine VL.r (.inl rfl) rfl (by decide) (yr_move rfl rfl) ?_
    refine VL.r (.inl rfl) rfl (by decide) (yr_int rfl rfl rfl (.inl ⟨rfl, wrap_in (by omega)⟩)) ?_
    refine VL.q (.inl rfl) rfl (by decide) (yq_idx (k := ((j * n) + j)) rfl Try.underlying23 sz26_Chol rfl rfl zz0 zz2 zz5 (by omega)) ?_
    refine VL.q (.inl rfl) rfl (by decide) (yq_loadF rfl fb26_Chol rfl zz0 (by omega)) ?_
    refine VL.r (.inl rfl) rfl (by decide) (yr_assign rfl rfl) ?_
    refine VL.nil ?_
    refine VE.then_wp ?_
    refine V.seq ?_
    refine V.seq ?_
    refine V.region ?_
    refine VL.r (.inl rfl) rfl (by decide) (yr_assign (u := .int .i64 0) rfl rfl) ?_
    refine VL.nil ?_
    refine VE.then_wp ?_
    refine V.block ?_
    refine V.loops (G := Nat) [(0, _), (1, _), (6, _), (7, _)] (fun (k : Nat) => k ≤ j) (fun (k : Nat) => [(8, .float .f32 (cS xs l n j k)), (9, .int .i64 (k : Int))]) (fun (k : Nat) => j - k) 0 (.cons rfl (.cons rfl (.cons rfl (.cons rfl .nil)))) (.cons rfl (.cons rfl .nil)) ?_ ?_
    · exact (by omega)
    rintro k hk
    show V _ _ _ _ ([(8, .float .f32 (cS xs l n j k)), (9, .int .i64 (k : Int))] ++ [(0, _), (1, _), (6, _), (7, _)]) _ _
    have hjk : j < n → k < j → j * n + k < n * n := fun h g => hix h (by omega)
    refine V.seq ?_
    refine V.seq ?_
    refine V.region ?_
    refine VL.r (.inl rfl) rfl (by decide) (yr_move rfl rfl) ?_
    refine VL.r (.inl rfl) rfl (by decide) (yr_move rfl rfl) ?_
    refine VL.r (.inl rfl) rfl (by decide) (yr_icmp rfl (.inr (.inr (.inl rfl))) rfl rfl) ?_
    refine VL.nil ?_
    refine VE.then_wp ?_
    refine V.cond rfl (fun h2 => ?_) (fun h2 => ?_)
    · skip
      replace h2 := ic_lss h2
      refine V.skip ?_
      refine VE.then_wp ?_
      refine V.seq ?_
      refine V.block ?_
      refine V.draw [(0, 0), (1, 0), (2, 0), (3, 0), (4, 0), (5, 0), (6, 0), (7, 0), (8, 0), (9, 0), (10, 0), (11, 0), (12, 0), (13, 0), (14, 0), (15, 0), (16, 0), (17, 0), (18, 0), (19, 0)] mixed_Chol (by kernel_rfl) (by intro j o hj; simp at hj) ?_
      refine SW.r rfl (.inl rfl) rfl (by decide) (yr_move rfl rfl) ?_
      refine SW.r rfl (.inl rfl) rfl (by decide) (yr_move rfl rfl) ?_
      refine SW.r rfl (.inl rfl) rfl (by decide) (yr_move rfl rfl) ?_
      refine SW.r rfl (.inl rfl) rfl (by decide) (yr_move rfl rfl) ?_
      refine SW.r rfl (.inl rfl) rfl (by decide) (yr_mulN j n rfl rfl rfl (by omega) (by omega) (Nat.le_trans (mul_small (by omega) (by omega)) (by decide))) ?_
      refine SW.r rfl (.inl rfl) rfl (by decide) (yr_move rfl rfl) ?_
      refine SW.r rfl (.inl rfl) rfl (by decide) (yr_int rfl rfl rfl (.inl ⟨rfl, wrap_in (by omega)⟩)) ?_
      refine SW.q rfl (.inl rfl) rfl (by decide) (yq_idx (k := ((j * n) + k)) rfl Try.underlying23 sz26_Chol rfl rfl zz0 zz2 zz5 (by omega)) ?_
      refine SW.q rfl (.inl rfl) rfl (by decide) (yq_loadF rfl fb26_Chol rfl zz0 (by omega)) ?_
      refine SW.r rfl (.inl rfl) rfl (by decide) (yr_move rfl rfl) ?_
      refine SW.r rfl (.inl rfl) rfl (by decide) (yr_move rfl rfl) ?_
      refine SW.r rfl (.inl rfl) rfl (by decide) (yr_move rfl rfl) ?_
      refine SW.r rfl (.inl rfl) rfl (by decide) (yr_mulN j n rfl rfl rfl (by omega) (by omega) (Nat.le_trans (mul_small (by omega) (by omega)) (by decide))) ?_
      refine SW.r rfl (.inl rfl) rfl (by decide) (yr_move rfl rfl) ?_
      refine SW.r rfl (.inl rfl) rfl (by decide) (yr_int rfl rfl rfl (.inl ⟨rfl, wrap_in (by omega)⟩)) ?_
      refine SW.q rfl (.inl rfl) rfl (by decide) (yq_idx (k := ((j * n) + k)) rfl Try.underlying23 sz26_Chol rfl rfl zz0 zz2 zz5 (by omega)) ?_
      refine SW.q rfl (.inl rfl) rfl (by decide) (yq_loadF rfl fb26_Chol rfl zz0 (by omega)) ?_
      refine SW.r rfl (.inl rfl) rfl (by decide) (yr_float rfl (.inr (.inr (.inl rfl))) rfl rfl) ?_
      refine SW.r rfl (.inl rfl) rfl (by decide) (yr_float rfl (.inr (.inl rfl)) rfl rfl) ?_
      refine SW.r rfl (.inl rfl) rfl (by decide) (yr_assign rfl rfl) ?_
      refine SW.done ?_
      refine VE.block_normal ?_
      refine VE.then_wp ?_
      refine V.region ?_
      refine VL.r (.inl rfl) rfl (by decide) (yr_move rfl rfl) ?_
      refine VL.r (.inl rfl) rfl (by decide) (yr_int rfl rfl rfl (.inl ⟨rfl, wrap_in (by omega)⟩)) ?_
      refine VL.r (.inl rfl) rfl (by decide) (yr_assign rfl rfl) ?_
      refine VL.nil ?_
      refine VE.round (k + 1) ?_ ?_ ?_ ?_ ?_
      · exact (.cons rfl (.cons rfl .nil))
      · exact (.cons rfl (.cons rfl (.cons rfl (.cons rfl .nil))))
      · exact (fun w hw => hw)
      · omega
      · (try dsimp only); omega
    · skip
      replace h2 := ic_lss' h2
      refine V.exit ?_
      refine VE.then_exit ?_
      refine VE.then_exit ?_
      refine VE.block_here ?_
      refine VE.then_wp ?_
      refine V.seq ?_
      refine V.seq ?_
      refine V.region ?_
      refine VL.r (.inl rfl) rfl (by decide) (yr_move rfl rfl) ?_
      refine VL.r (.inl rfl) rfl (by decide) (yr_fcmp (b := 0) rfl (.inr (.inr (.inr (.inr (.inl rfl))))) rfl rfl) ?_
      refine VL.r (.inl rfl) rfl (by decide) (yr_not rfl rfl) ?_
      refine VL.nil ?_
      refine VE.then_wp ?_
      refine V.cond rfl (fun h3 => ?_) (fun h3 => ?_)
      · skip
        replace h3 := bnot_t h3
        refine V.seq ?_
        refine V.region ?_
        refine VL.r (.inl rfl) rfl (by decide) (yr_assign (u := .slice none 0 0) rfl rfl) ?_
        refine VL.r (.inl rfl) rfl (by decide) (yr_assign (u := .bool false) rfl rfl) ?_
        refine VL.nil ?_
        refine VE.then_wp ?_
        refine V.ret ?_
        refine VE.then_ret ?_
        refine VE.block_ret ?_
        refine VE.then_ret ?_
        refine VE.then_ret ?_
        refine VE.block_ret ?_
        refine VE.then_ret ?_
        refine ret2 rfl rfl rfl (by nofun) (by nofun) (fun w1 hw => ?_)
        obtain rfl : k = j := by omega
        have hs : cholOk xs n = false := chol_no1 (j := k) (by omega) (by rw [← hl]; assumption)
        exact ⟨(none, 0), by rw [cholOf_no hs, hs]; rfl, hw.below, by rw [cholOf_no hs]; simp [fl, Ent.at], List.pairwise_singleton _ _⟩
      · skip
        replace h3 := bnot_f h3
        refine V.skip ?_
        refine VE.then_wp ?_
        refine V.seq ?_
        refine V.region ?_
        refine VL.r (.inl rfl) rfl (by decide) (yr_move rfl rfl) ?_
        refine VL.r (.inl rfl) rfl (by decide) (yr_move rfl rfl) ?_
        refine VL.r (.inl rfl) rfl (by decide) (yr_move rfl rfl) ?_
        refine VL.r (.inl rfl) rfl (by decide) (yr_mulN j n rfl rfl rfl (by omega) (by omega) (Nat.le_trans (mul_small (by omega) (by omega)) (by decide))) ?_
        refine VL.r (.inl rfl) rfl (by decide) (yr_move rfl rfl) ?_
        refine VL.r (.inl rfl) rfl (by decide) (yr_int rfl rfl rfl (.inl ⟨rfl, wrap_in (by omega)⟩)) ?_
        refine VL.r (.inl rfl) rfl (by decide) (yr_move rfl rfl) ?_
        refine VL.q (.inl rfl) rfl (by decide) (yq_callf rfl known86_Chol (.cons rfl .nil) (fun w hw => c_l01Sqrt _)) ?_
        refine VL.q (.inl rfl) rfl (by decide) (yq_idx (k := ((j * n) + j)) rfl Try.underlying23 sz26_Chol rfl rfl zz0 zz2 zz5 (by omega)) ?_
        refine VL.s (.inl rfl) rfl (yc_store rfl sz26_Chol rfl rfl zz6 (.inl ⟨rfl, rfl⟩) rfl (by rw [fl_length]; omega) (by decide) (fl_set _ _ _)) ?_
        rintro ⟨⟩
        refine VL.nil ?_
        refine VE.then_wp ?_
        refine V.seq ?_
        refine V.region ?_
        refine VL.r (.inl rfl) rfl (by decide) (yr_move rfl rfl) ?_
        refine VL.r (.inl rfl) rfl (by decide) (yr_int rfl rfl rfl (.inl ⟨rfl, wrap_in (by omega)⟩)) ?_
        refine VL.r (.inl rfl) rfl (by decide) (yr_assign rfl rfl) ?_
        refine VL.nil ?_
        refine VE.then_wp ?_
        refine V.block ?_
        refine V.loopc (G := Nat × (List Nat)) [(0, _), (1, _), (6, _), (7, _)] (fun ⟨c, m⟩ => j + 1 + c ≤ n ∧ m.length = n * n ∧ m = cCol xs n j (l.set (j * n + j) (sqrt32 (cS xs l n j j))) c) (fun ⟨c, m⟩ => [⟨some ⟨b16, 0, none⟩, fl m, n * n * 1, 26⟩]) (fun ⟨c, m⟩ => [(10, .int .i64 ((j + 1 + c : Nat) : Int))]) (fun ⟨c, m⟩ => n - (j + 1 + c)) (0, l.set (j * n + j) (sqrt32 (cS xs l n j k))) (.cons rfl (.cons rfl (.cons rfl (.cons rfl .nil)))) (.cons (congrArg (fun i => some (Value.int .i64 i)) (by omega)) .nil) ?_ ?_ ?_
        · exact (fun w hw => hw)
        · exact (by obtain rfl : k = j := (by omega); exact ⟨by omega, by simp [hll], rfl⟩)
        rintro ⟨c, m⟩ ⟨hcn, hml, hm⟩
        show V _ _ _ [⟨some ⟨b16, 0, none⟩, fl m, n * n * 1, 26⟩] ([(10, .int .i64 ((j + 1 + c : Nat) : Int))] ++ [(0, _), (1, _), (6, _), (7, _)]) _ _
        have hij : j + 1 + c < n → (j + 1 + c) * n + j < n * n := fun h => hix h (by omega)
        refine V.seq ?_
        refine V.seq ?_
        refine V.region ?_
        refine VL.r (.inl rfl) rfl (by decide) (yr_move rfl rfl) ?_
        refine VL.r (.inl rfl) rfl (by decide) (yr_move rfl rfl) ?_
        refine VL.r (.inl rfl) rfl (by decide) (yr_icmp rfl (.inr (.inr (.inl rfl))) rfl rfl) ?_
        refine VL.nil ?_
        refine VE.then_wp ?_
        refine V.cond rfl (fun h4 => ?_) (fun h4 => ?_)
        · skip
          replace h4 := ic_lss h4
          refine V.skip ?_
          refine VE.then_wp ?_
          refine V.seq ?_
          refine V.block ?_
          refine V.seq ?_
          refine V.region ?_
          refine VL.r (.inl rfl) rfl (by decide) (yr_move rfl rfl) ?_
          refine VL.r (.inl rfl) rfl (by decide) (yr_move rfl rfl) ?_
          refine VL.r (.inl rfl) rfl (by decide) (yr_move rfl rfl) ?_
          refine VL.r (.inl rfl) rfl (by decide) (yr_mulN (j + 1 + c) n rfl rfl rfl (by omega) (by omega) (Nat.le_trans (mul_small (by omega) (by omega)) (by decide))) ?_
          refine VL.r (.inl rfl) rfl (by decide) (yr_move rfl rfl) ?_
          refine VL.r (.inl rfl) rfl (by decide) (yr_int rfl rfl rfl (.inl ⟨rfl, wrap_in (by omega)⟩)) ?_
          refine VL.q (.inl rfl) rfl (by decide) (yq_idx (k := (((j + 1 + c) * n) + j)) rfl Try.underlying23 sz26_Chol rfl rfl zz0 zz2 zz5 (by omega)) ?_
          refine VL.q (.inl rfl) rfl (by decide) (yq_loadF rfl fb26_Chol rfl zz0 (by omega)) ?_
          refine VL.r (.inl rfl) rfl (by decide) (yr_assign rfl rfl) ?_
          refine VL.nil ?_
          refine VE.then_wp ?_
          refine V.seq ?_
          refine V.seq ?_
          refine V.region ?_
          refine VL.r (.inl rfl) rfl (by decide) (yr_assign (u := .int .i64 0) rfl rfl) ?_
          refine VL.nil ?_
          refine VE.then_wp ?_
          refine V.block ?_
          refine V.loops (G := Nat) [(0, _), (1, _), (6, _), (7, _), (10, _)] (fun (q : Nat) => q ≤ j) (fun (q : Nat) => [(11, .float .f32 (cX xs m n (j + 1 + c) j q)), (12, .int .i64 (q : Int))]) (fun (q : Nat) => j - q) 0 (.cons rfl (.cons rfl (.cons rfl (.cons rfl (.cons rfl .nil))))) (.cons rfl (.cons rfl .nil)) ?_ ?_
          · exact (by omega)
          rintro q hq
          show V _ _ _ _ ([(11, .float .f32 (cX xs m n (j + 1 + c) j q)), (12, .int .i64 (q : Int))] ++ [(0, _), (1, _), (6, _), (7, _), (10, _)]) _ _
          have hjq : j < n → q < j → j * n + q < n * n := fun h g => hix h (by omega)
          have hiq : j + 1 + c < n → q < j → (j + 1 + c) * n + q < n * n := fun h g => hix h (by omega)
          refine V.seq ?_
          refine V.seq ?_
          refine V.region ?_
          refine VL.r (.inl rfl) rfl (by decide) (yr_move rfl rfl) ?_
          refine VL.r (.inl rfl) rfl (by decide) (yr_move rfl rfl) ?_
          refine VL.r (.inl rfl) rfl (by decide) (yr_icmp rfl (.inr (.inr (.inl rfl))) rfl rfl) ?_
          refine VL.nil ?_
          refine VE.then_wp ?_
          refine V.cond rfl (fun h5 => ?_) (fun h5 => ?_)
          · skip
            replace h5 := ic_lss h5
            refine V.skip ?_
            refine VE.then_wp ?_
            refine V.seq ?_
            refine V.block ?_
            refine V.draw [(0, 0), (1, 0), (2, 0), (3, 0), (4, 0), (5, 0), (6, 0), (7, 0), (8, 0), (9, 0), (10, 0), (11, 0), (12, 0), (13, 0), (14, 0), (15, 0), (16, 0), (17, 0), (18, 0), (19, 0)] mixed_Chol (by kernel_rfl) (by intro j o hj; simp at hj) ?_
            refine SW.r rfl (.inl rfl) rfl (by decide) (yr_move rfl rfl) ?_
            refine SW.r rfl (.inl rfl) rfl (by decide) (yr_move rfl rfl) ?_
            refine SW.r rfl (.inl rfl) rfl (by decide) (yr_move rfl rfl) ?_
            refine SW.r rfl (.inl rfl) rfl (by decide) (yr_move rfl rfl) ?_
            refine SW.r rfl (.inl rfl) rfl (by decide) (yr_mulN (j + 1 + c) n rfl rfl rfl (by omega) (by omega) (Nat.le_trans (mul_small (by omega) (by omega)) (by decide))) ?_
            refine SW.r rfl (.inl rfl) rfl (by decide) (yr_move rfl rfl) ?_
            refine SW.r rfl (.inl rfl) rfl (by decide) (yr_int rfl rfl rfl (.inl ⟨rfl, wrap_in (by omega)⟩)) ?_
            refine SW.q rfl (.inl rfl) rfl (by decide) (yq_idx (k := (((j + 1 + c) * n) + q)) rfl Try.underlying23 sz26_Chol rfl rfl zz0 zz2 zz5 (by omega)) ?_
            refine SW.q rfl (.inl rfl) rfl (by decide) (yq_loadF rfl fb26_Chol rfl zz0 (by omega)) ?_
            refine SW.r rfl (.inl rfl) rfl (by decide) (yr_move rfl rfl) ?_
            refine SW.r rfl (.inl rfl) rfl (by decide) (yr_move rfl rfl) ?_
            refine SW.r rfl (.inl rfl) rfl (by decide) (yr_move rfl rfl) ?_
            refine SW.r rfl (.inl rfl) rfl (by decide) (yr_mulN j n rfl rfl rfl (by omega) (by omega) (Nat.le_trans (mul_small (by omega) (by omega)) (by decide))) ?_
            refine SW.r rfl (.inl rfl) rfl (by decide) (yr_move rfl rfl) ?_
            refine SW.r rfl (.inl rfl) rfl (by decide) (yr_int rfl rfl rfl (.inl ⟨rfl, wrap_in (by omega)⟩)) ?_
            refine SW.q rfl (.inl rfl) rfl (by decide) (yq_idx (k := ((j * n) + q)) rfl Try.underlying23 sz26_Chol rfl rfl zz0 zz2 zz5 (by omega)) ?_
            refine SW.q rfl (.inl rfl) rfl (by decide) (yq_loadF rfl fb26_Chol rfl zz0 (by omega)) ?_
            refine SW.r rfl (.inl rfl) rfl (by decide) (yr_float rfl (.inr (.inr (.inl rfl))) rfl rfl) ?_
            refine SW.r rfl (.inl rfl) rfl (by decide) (yr_float rfl (.inr (.inl rfl)) rfl rfl) ?_
            refine SW.r rfl (.inl rfl) rfl (by decide) (yr_assign rfl rfl) ?_
            refine SW.done ?_
            refine VE.block_normal ?_
            refine VE.then_wp ?_
            refine V.region ?_
            refine VL.r (.inl rfl) rfl (by decide) (yr_move rfl rfl) ?_
            refine VL.r (.inl rfl) rfl (by decide) (yr_int rfl rfl rfl (.inl ⟨rfl, wrap_in (by omega)⟩)) ?_
            refine VL.r (.inl rfl) rfl (by decide) (yr_assign rfl rfl) ?_
            refine VL.nil ?_
            refine VE.round (q + 1) ?_ ?_ ?_ ?_ ?_
            · exact (.cons rfl (.cons rfl .nil))
            · exact (.cons rfl (.cons rfl (.cons rfl (.cons rfl (.cons rfl .nil)))))
            · exact (fun w hw => hw)
            · omega
            · (try dsimp only); omega
          · skip
            replace h5 := ic_lss' h5
            refine V.exit ?_
            refine VE.then_exit ?_
            refine VE.then_exit ?_
            refine VE.block_here ?_
            refine VE.then_wp ?_
            refine V.region ?_
            refine VL.r (.inl rfl) rfl (by decide) (yr_move rfl rfl) ?_
            refine VL.r (.inl rfl) rfl (by decide) (yr_move rfl rfl) ?_
            refine VL.r (.inl rfl) rfl (by decide) (yr_move rfl rfl) ?_
            refine VL.r (.inl rfl) rfl (by decide) (yr_mulN (j + 1 + c) n rfl rfl rfl (by omega) (by omega) (Nat.le_trans (mul_small (by omega) (by omega)) (by decide))) ?_
            refine VL.r (.inl rfl) rfl (by decide) (yr_move rfl rfl) ?_
            refine VL.r (.inl rfl) rfl (by decide) (yr_int rfl rfl rfl (.inl ⟨rfl, wrap_in (by omega)⟩)) ?_
            refine VL.r (.inl rfl) rfl (by decide) (yr_move rfl rfl) ?_
            refine VL.r (.inl rfl) rfl (by decide) (yr_move rfl rfl) ?_
            refine VL.r (.inl rfl) rfl (by decide) (yr_move rfl rfl) ?_
            refine VL.r (.inl rfl) rfl (by decide) (yr_move rfl rfl) ?_
            refine VL.r (.inl rfl) rfl (by decide) (yr_mulN j n rfl rfl rfl (by omega) (by omega) (Nat.le_trans (mul_small (by omega) (by omega)) (by decide))) ?_
            refine VL.r (.inl rfl) rfl (by decide) (yr_move rfl rfl) ?_
            refine VL.r (.inl rfl) rfl (by decide) (yr_int rfl rfl rfl (.inl ⟨rfl, wrap_in (by omega)⟩)) ?_
            refine VL.q (.inl rfl) rfl (by decide) (yq_idx (k := ((j * n) + j)) rfl Try.underlying23 sz26_Chol rfl rfl zz0 zz2 zz5 (by omega)) ?_
            refine VL.q (.inl rfl) rfl (by decide) (yq_loadF rfl fb26_Chol rfl zz0 (by omega)) ?_
            refine VL.r (.inl rfl) rfl (by decide) (yr_float rfl (.inr (.inr (.inr rfl))) rfl rfl) ?_
            refine VL.q (.inl rfl) rfl (by decide) (yq_idx (k := (((j + 1 + c) * n) + j)) rfl Try.underlying23 sz26_Chol rfl rfl zz0 zz2 zz5 (by omega)) ?_
            refine VL.s (.inl rfl) rfl (yc_store rfl sz26_Chol rfl rfl zz6 (.inl ⟨rfl, rfl⟩) rfl (by rw [fl_length]; omega) (by decide) (fl_set _ _ _)) ?_
            rintro ⟨⟩
            refine VL.nil ?_
            refine VE.block_normal ?_
            refine VE.then_wp ?_
            refine V.region ?_
            refine VL.r (.inl rfl) rfl (by decide) (yr_move rfl rfl) ?_
            refine VL.r (.inl rfl) rfl (by decide) (yr_int rfl rfl rfl (.inl ⟨rfl, wrap_in (by omega)⟩)) ?_
            refine VL.r (.inl rfl) rfl (by decide) (yr_assign rfl rfl) ?_
            refine VL.nil ?_
            refine VE.round (c + 1, m.set ((j + 1 + c) * n + j) (fop .quo .f32 (cX xs m n (j + 1 + c) j q) (m.getD (j * n + j) 0))) ?_ ?_ ?_ ?_ ?_
            · exact (.cons (congrArg (fun i => some (Value.int .i64 i)) (by omega)) .nil)
            · exact (.cons rfl (.cons rfl (.cons rfl (.cons rfl .nil))))
            · exact (fun w hw => hw)
            · obtain rfl : q = j := by omega
              refine ⟨by omega, by simp [hml], ?_⟩
              rw [cCol, ← hm]
            · (try dsimp only); omega
        · skip
          replace h4 := ic_lss' h4
          refine V.exit ?_
          refine VE.then_exit ?_
          refine VE.then_exit ?_
          refine VE.block_here ?_
          refine VE.block_normal ?_
          refine VE.then_wp ?_
          refine V.region ?_
          refine VL.r (.inl rfl) rfl (by decide) (yr_move rfl rfl) ?_
          refine VL.r (.inl rfl) rfl (by decide) (yr_int rfl rfl rfl (.inl ⟨rfl, wrap_in (by omega)⟩)) ?_
          refine VL.r (.inl rfl) rfl (by decide) (yr_assign rfl rfl) ?_
          refine VL.nil ?_
          refine VE.round (j + 1, m) ?_ ?_ ?_ ?_ ?_
          · exact (.cons rfl .nil)
          · exact (.cons rfl (.cons rfl (.cons rfl .nil)))
          · exact (fun w hw => hw)
          · refine ⟨by omega, hml, ?_, fun t ht => ?_⟩
            · rw [hm, chol, ← hl, show n - (j + 1) = c by omega]
            · rcases Nat.lt_or_ge t j with g | g
              · exact hc t g
              · obtain rfl : t = j := by omega
                obtain rfl : k = t := by omega
                rw [← hl]; assumption
          · (try dsimp only); omega
  · skip
    replace h1 := ic_lss' h1
    refine V.exit ?_
    refine VE.then_exit ?_
    refine VE.then_exit ?_
    refine VE.block_here ?_
    refine VE.then_wp ?_
    refine V.seq ?_
    refine V.region ?_
    refine VL.r (.inl rfl) rfl (by decide) (yr_move rfl rfl) ?_
    refine VL.r (.inl rfl) rfl (by decide) (yr_assign rfl rfl) ?_
    refine VL.r (.inl rfl) rfl (by decide) (yr_assign (u := .bool true) rfl rfl) ?_
    refine VL.nil ?_
    refine VE.then_wp ?_
    refine V.ret ?_
    refine ret2 rfl rfl rfl (by nofun) (by nofun) (fun w1 hw => ?_)
    obtain rfl : n = j := by omega
    have hs : cholOk xs n = true := chol_yes hn0 hc
    have hso : cholOf xs n = l := by rw [cholOf_yes hs, hl]
    exact ⟨(some ⟨b16, 0, none⟩, n * n), by rw [hso, hs, hll], by rw [hso]; exact hw.out1⟩
theorem c_implChol [PhC] {w : World} {a : Option Addr} {c n : Nat} {xs : List Nat} (hA : Cl w a (fl xs)) (hxn : xs.length ≤ 1050000) (hn : n = side xs.length) : New Try.prog 25 [.slice a xs.length c] w (fun p : Option Addr × Nat => .tuple #[.slice p.1 (cholOf xs n).length p.2, .bool (cholOk xs n)]) (fun p => [⟨p.1, fl (cholOf xs n), p.2 * 1, 26⟩]) := by
  have hn8 : n ≤ 8 := by rw [hn]; exact side_le _
  have hnn : n * n ≤ 64 := Nat.mul_le_mul hn8 hn8
  have hix : ∀ {j k : Nat}, j < n → k < n → j * n + k < n * n := idx_lt
  refine New.enter Try.func25 rfl Try.ntmps25 (Nat.le_of_ble_eq_true rfl) ?_
  refine V.seq ?_
  refine V.region ?_
  refine VL.r (.inl rfl) rfl (by decide) (yr_assign (u := .slice none 0 0) rfl rfl) ?_
  refine VL.r (.inl rfl) rfl (by decide) (yr_assign (u := .bool false) rfl rfl) ?_
  refine VL.nil ?_
  refine VE.then_wp ?_
  refine V.seq ?_
  refine V.region ?_
  refine VL.r (.inl rfl) rfl (by decide) (yr_move rfl rfl) ?_
  refine VL.q (.inl rfl) rfl (by decide) (yq_callf rfl known58_Chol (.cons rfl .nil) (fun w hw => (c_sideOf hn (by omega)))) ?_
  refine VL.r (.inl rfl) rfl (by decide) (yr_move rfl rfl) ?_
  refine VL.r (.inl rfl) rfl (by decide) (yr_extract rfl rfl rfl (by nofun)) ?_
  refine VL.r (.inl rfl) rfl (by decide) (yr_extract rfl rfl rfl (by nofun)) ?_
  refine VL.r (.inl rfl) rfl (by decide) (yr_assign rfl rfl) ?_
  refine VL.r (.inl rfl) rfl (by decide) (yr_assign rfl rfl) ?_
  refine VL.nil ?_
  refine VE.then_wp ?_
  refine V.seq ?_
  refine V.seq ?_
  refine V.region ?_
  refine VL.r (.inl rfl) rfl (by decide) (yr_move rfl rfl) ?_
  refine VL.r (.inl rfl) rfl (by decide) (yr_not rfl rfl) ?_
  refine VL.nil ?_
  refine VE.then_wp ?_
  refine V.cond rfl (fun h1 => ?_) (fun h1 => ?_)
  · skip
    replace h1 := bnot_t h1
    replace h1 := of_decide_eq_false h1
    refine V.seq ?_
    refine V.region ?_
    refine VL.r (.inl rfl) rfl (by decide) (yr_assign (u := .slice none 0 0) rfl rfl) ?_
    refine VL.r (.inl rfl) rfl (by decide) (yr_assign (u := .bool false) rfl rfl) ?_
    refine VL.nil ?_
    refine VE.then_wp ?_
    refine V.ret ?_
    refine VE.then_ret ?_
    refine ret2 rfl rfl rfl (by nofun) (by nofun) (fun w1 hw => ?_)
    have hs : cholOk xs n = false := chol_no0 (by omega)
    exact ⟨(none, 0), by rw [cholOf_no hs, hs]; rfl, hw.below, by rw [cholOf_no hs]; simp [fl, Ent.at], List.pairwise_singleton _ _⟩
  · skip
    replace h1 := bnot_f h1
    replace h1 := of_decide_eq_true h1
    have hxs : xs.length = n * n := by rw [hn]; exact (side_mul (by rw [← hn]; omega)).symm
    refine V.skip ?_
    refine VE.then_wp ?_
    refine V.seq ?_
    refine V.region ?_
    refine VL.r (.inl rfl) rfl (by decide) (yr_move rfl rfl) ?_
    refine VL.r (.inl rfl) rfl (by decide) (yr_move rfl rfl) ?_
    refine VL.r (.inl rfl) rfl (by decide) (yr_int rfl rfl rfl (.inr (.inr ⟨rfl, wrap_in (by omega)⟩))) ?_
    refine VL.new1 (.inl rfl) rfl (by decide) (yn_makeSlicez 1 rfl rfl Try.underlying23 elt26_Chol rfl rfl rfl (by omega) (by omega)) ?_
    intro b23
    refine VL.r (.inl rfl) rfl (by decide) (yr_assign rfl rfl) ?_
    refine VL.nil ?_
    refine VE.then_wp ?_
    refine V.seq ?_
    refine V.seq ?_
    refine V.region ?_
    refine VL.r (.inl rfl) rfl (by decide) (yr_move rfl rfl) ?_
    refine VL.r (.inl rfl) rfl (by decide) (yr_move (u := .int .i64 0) rfl rfl) ?_
    refine VL.nil ?_
    refine VE.then_wp ?_
    refine V.block ?_
    refine V.loopc (G := Nat × (List Nat)) [(0, _), (4, _), (6, _), (24, _)] (fun ⟨j, l⟩ => j ≤ n ∧ l.length = n * n ∧ l = chol xs n j ∧ ∀ t, t < j → fcmp .gtr .f32 (cS xs (chol xs n t) n t t) 0 = true) (fun ⟨j, l⟩ => [⟨some ⟨b23, 0, none⟩, fl l, n * n * 1, 26⟩]) (fun ⟨j, l⟩ => [(25, .int .i64 (j : Int))]) (fun ⟨j, l⟩ => n - j) (0, List.replicate (n * n) 0) (.cons rfl (.cons rfl (.cons rfl (.cons rfl .nil)))) (.cons rfl .nil) ?_ ?_ ?_
    · exact (fun w hw => by rw [fl_zeros] at hw; exact hw)
    · exact (by exact ⟨by omega, by simp, rfl, fun t h => by omega⟩)
    rintro ⟨j, l⟩ ⟨hj, hll, hl, hc⟩
    show V _ _ _ [⟨some ⟨b23, 0, none⟩, fl l, n * n * 1, 26⟩] ([(25, .int .i64 (j : Int))] ++ [(0, _), (4, _), (6, _), (24, _)]) _ _
    have hjj : j < n → j * n + j < n * n := fun h => hix h h
    refine V.seq ?_
    refine V.region ?_
    refine VL.r (.inl rfl) rfl (by decide) (yr_icmp rfl (.inr (.inr (.inl rfl))) rfl rfl) ?_
    refine VL.nil ?_
    refine VE.then_wp ?_
    refine V.seq ?_
    refine V.cond rfl (fun h2 => ?_) (fun h2 => ?_)
    · skip
      replace h2 := ic_lss h2
      refine V.skip ?_
      refine VE.then_wp ?_
      refine V.seq ?_
      refine V.block ?_
      refine V.seq ?_
      refine V.region ?_
      refine VL.r (.inl rfl) rfl (by decide) (yr_move rfl rfl) ?_
      refine VL.r (.inl rfl) rfl (by decide) (yr_assign rfl rfl) ?_
      refine VL.nil ?_
      refine VE.then_wp ?_
      refine V.seq ?_
      refine V.region ?_
      refine VL.r (.inl rfl) rfl (by decide) (yr_move rfl rfl) ?_
      refine VL.r (.inl rfl) rfl (by decide) (yr_move rfl rfl) ?_
      refine VL.r (.inl rfl) rfl (by decide) (yr_move rfl rfl) ?_
      refine VL.r (.inl rfl) rfl (by decide) (yr_mulN j n rfl rfl rfl (by omega) (by omega) (Nat.le_trans (mul_small (by omega) (by omega)) (by decide))) ?_
      refine VL.r (.inl rfl) rfl (by decide) (yr_move rfl rfl) ?_
      refine VL.r (.inl rfl) rfl (by decide) (yr_int rfl rfl rfl (.inl ⟨rfl, wrap_in (by omega)⟩)) ?_
      refine VL.q (.inl rfl) rfl (by decide) (yq_idx (k := ((j * n) + j)) rfl Try.underlying23 sz26_Chol rfl rfl zz0 zz2 zz5 (by omega)) ?_
      refine VL.q (.inl rfl) rfl (by decide) (yq_loadF rfl fb26_Chol rfl zz0 (by omega)) ?_
      refine VL.r (.inl rfl) rfl (by decide) (yr_assign rfl rfl) ?_
      refine VL.nil ?_
      refine VE.then_wp ?_
      refine V.seq ?_
      refine V.seq ?_
      refine V.region ?_
      refine VL.r (.inl rfl) rfl (by decide) (yr_move rfl rfl) ?_
      refine VL.r (.inl rfl) rfl (by decide) (yr_move (u := .int .i64 0) rfl rfl) ?_
      refine VL.nil ?_
      refine VE.then_wp ?_
      refine V.block ?_
      refine V.loops (G := Nat) [(0, _), (4, _), (6, _), (7, _), (24, _), (25, _), (36, _)] (fun (k : Nat) => k ≤ j) (fun (k : Nat) => [(8, .float .f32 (cS xs l n j k)), (37, .int .i64 (k : Int))]) (fun (k : Nat) => j - k) 0 (.cons rfl (.cons rfl (.cons rfl (.cons rfl (.cons rfl (.cons rfl (.cons rfl .nil))))))) (.cons rfl (.cons rfl .nil)) ?_ ?_
      · exact (by omega)
      rintro k hk
      show V _ _ _ _ ([(8, .float .f32 (cS xs l n j k)), (37, .int .i64 (k : Int))] ++ [(0, _), (4, _), (6, _), (7, _), (24, _), (25, _), (36, _)]) _ _
      have hjk : j < n → k < j → j * n + k < n * n := fun h g => hix h (by omega)
      refine V.seq ?_
      refine V.region ?_
      refine VL.r (.inl rfl) rfl (by decide) (yr_icmp rfl (.inr (.inr (.inl rfl))) rfl rfl) ?_
      refine VL.nil ?_
      refine VE.then_wp ?_
      refine V.seq ?_
      refine V.cond rfl (fun h3 => ?_) (fun h3 => ?_)
      · skip
        replace h3 := ic_lss h3
        refine V.skip ?_
        refine VE.then_wp ?_
        refine V.seq ?_
        refine V.block ?_
        refine V.seq ?_
        refine V.region ?_
        refine VL.r (.inl rfl) rfl (by decide) (yr_move rfl rfl) ?_
        refine VL.r (.inl rfl) rfl (by decide) (yr_assign rfl rfl) ?_
        refine VL.nil ?_
        refine VE.then_wp ?_
        refine V.draw [(0, 0), (1, 0), (2, 0), (3, 0), (4, 0), (5, 0), (6, 0), (7, 0), (8, 0), (9, 0), (10, 0), (11, 0), (12, 0), (13, 0), (14, 0), (15, 0), (16, 0), (17, 0), (18, 0), (19, 0)] mixed_Chol (by kernel_rfl) (by intro j o hj; simp at hj) ?_
        refine SW.r rfl (.inl rfl) rfl (by decide) (yr_move rfl rfl) ?_
        refine SW.r rfl (.inl rfl) rfl (by decide) (yr_move rfl rfl) ?_
        refine SW.r rfl (.inl rfl) rfl (by decide) (yr_move rfl rfl) ?_
        refine SW.r rfl (.inl rfl) rfl (by decide) (yr_move rfl rfl) ?_
        refine SW.r rfl (.inl rfl) rfl (by decide) (yr_mulN j n rfl rfl rfl (by omega) (by omega) (Nat.le_trans (mul_small (by omega) (by omega)) (by decide))) ?_
        refine SW.r rfl (.inl rfl) rfl (by decide) (yr_move rfl rfl) ?_
        refine SW.r rfl (.inl rfl) rfl (by decide) (yr_int rfl rfl rfl (.inl ⟨rfl, wrap_in (by omega)⟩)) ?_
        refine SW.q rfl (.inl rfl) rfl (by decide) (yq_idx (k := ((j * n) + k)) rfl Try.underlying23 sz26_Chol rfl rfl zz0 zz2 zz5 (by omega)) ?_
        refine SW.q rfl (.inl rfl) rfl (by decide) (yq_loadF rfl fb26_Chol rfl zz0 (by omega)) ?_
        refine SW.r rfl (.inl rfl) rfl (by decide) (yr_move rfl rfl) ?_
        refine SW.r rfl (.inl rfl) rfl (by decide) (yr_move rfl rfl) ?_
        refine SW.r rfl (.inl rfl) rfl (by decide) (yr_move rfl rfl) ?_
        refine SW.r rfl (.inl rfl) rfl (by decide) (yr_mulN j n rfl rfl rfl (by omega) (by omega) (Nat.le_trans (mul_small (by omega) (by omega)) (by decide))) ?_
        refine SW.r rfl (.inl rfl) rfl (by decide) (yr_move rfl rfl) ?_
        refine SW.r rfl (.inl rfl) rfl (by decide) (yr_int rfl rfl rfl (.inl ⟨rfl, wrap_in (by omega)⟩)) ?_
        refine SW.q rfl (.inl rfl) rfl (by decide) (yq_idx (k := ((j * n) + k)) rfl Try.underlying23 sz26_Chol rfl rfl zz0 zz2 zz5 (by omega)) ?_
        refine SW.q rfl (.inl rfl) rfl (by decide) (yq_loadF rfl fb26_Chol rfl zz0 (by omega)) ?_
        refine SW.r rfl (.inl rfl) rfl (by decide) (yr_float rfl (.inr (.inr (.inl rfl))) rfl rfl) ?_
        refine SW.r rfl (.inl rfl) rfl (by decide) (yr_float rfl (.inr (.inl rfl)) rfl rfl) ?_
        refine SW.r rfl (.inl rfl) rfl (by decide) (yr_assign rfl rfl) ?_
        refine SW.done ?_
        refine VE.block_normal ?_
        refine VE.then_wp ?_
        refine V.region ?_
        refine VL.r (.inl rfl) rfl (by decide) (yr_int rfl rfl rfl (.inl ⟨rfl, wrap_in (by omega)⟩)) ?_
        refine VL.r (.inl rfl) rfl (by decide) (yr_move rfl rfl) ?_
        refine VL.nil ?_
        refine VE.round (k + 1) ?_ ?_ ?_ ?_ ?_
        · exact (.cons rfl (.cons rfl .nil))
        · exact (.cons rfl (.cons rfl (.cons rfl (.cons rfl (.cons rfl (.cons rfl (.cons rfl .nil)))))))
        · exact (fun w hw => hw)
        · omega
        · (try dsimp only); omega
      · skip
        replace h3 := ic_lss' h3
        refine V.exit ?_
        refine VE.then_exit ?_
        refine VE.then_exit ?_
        refine VE.block_here ?_
        refine VE.then_wp ?_
        refine V.seq ?_
        refine V.seq ?_
        refine V.region ?_
        refine VL.r (.inl rfl) rfl (by decide) (yr_move rfl rfl) ?_
        refine VL.r (.inl rfl) rfl (by decide) (yr_fcmp (b := 0) rfl (.inr (.inr (.inr (.inr (.inl rfl))))) rfl rfl) ?_
        refine VL.r (.inl rfl) rfl (by decide) (yr_not rfl rfl) ?_
        refine VL.nil ?_
        refine VE.then_wp ?_
        refine V.cond rfl (fun h4 => ?_) (fun h4 => ?_)
        · skip
          replace h4 := bnot_t h4
          refine V.seq ?_
          refine V.region ?_
          refine VL.r (.inl rfl) rfl (by decide) (yr_assign (u := .slice none 0 0) rfl rfl) ?_
          refine VL.r (.inl rfl) rfl (by decide) (yr_assign (u := .bool false) rfl rfl) ?_
          refine VL.nil ?_
          refine VE.then_wp ?_
          refine V.ret ?_
          refine VE.then_ret ?_
          refine VE.block_ret ?_
          refine VE.then_ret ?_
          refine VE.then_ret ?_
          refine VE.block_ret ?_
          refine VE.then_ret ?_
          refine ret2 rfl rfl rfl (by nofun) (by nofun) (fun w1 hw => ?_)
          obtain rfl : k = j := by omega
          have hs : cholOk xs n = false := chol_no1 (j := k) (by omega) (by rw [← hl]; assumption)
          exact ⟨(none, 0), by rw [cholOf_no hs, hs]; rfl, hw.below, by rw [cholOf_no hs]; simp [fl, Ent.at], List.pairwise_singleton _ _⟩
        · skip
          replace h4 := bnot_f h4
          refine V.skip ?_
          refine VE.then_wp ?_
          refine V.seq ?_
          refine V.region ?_
          refine VL.r (.inl rfl) rfl (by decide) (yr_move rfl rfl) ?_
          refine VL.r (.inl rfl) rfl (by decide) (yr_move rfl rfl) ?_
          refine VL.r (.inl rfl) rfl (by decide) (yr_move rfl rfl) ?_
          refine VL.r (.inl rfl) rfl (by decide) (yr_mulN j n rfl rfl rfl (by omega) (by omega) (Nat.le_trans (mul_small (by omega) (by omega)) (by decide))) ?_
          refine VL.r (.inl rfl) rfl (by decide) (yr_move rfl rfl) ?_
          refine VL.r (.inl rfl) rfl (by decide) (yr_int rfl rfl rfl (.inl ⟨rfl, wrap_in (by omega)⟩)) ?_
          refine VL.r (.inl rfl) rfl (by decide) (yr_move rfl rfl) ?_
          refine VL.q (.inl rfl) rfl (by decide) (yq_callf rfl known59_Chol (.cons rfl .nil) (fun w hw => c_RootNumber _)) ?_
          refine VL.q (.inl rfl) rfl (by decide) (yq_idx (k := ((j * n) + j)) rfl Try.underlying23 sz26_Chol rfl rfl zz0 zz2 zz5 (by omega)) ?_
          refine VL.s (.inl rfl) rfl (yc_store rfl sz26_Chol rfl rfl zz6 (.inl ⟨rfl, rfl⟩) rfl (by rw [fl_length]; omega) (by decide) (fl_set _ _ _)) ?_
          rintro ⟨⟩
          refine VL.nil ?_
          refine VE.then_wp ?_
          refine V.seq ?_
          refine V.region ?_
          refine VL.r (.inl rfl) rfl (by decide) (yr_move rfl rfl) ?_
          refine VL.r (.inl rfl) rfl (by decide) (yr_int rfl rfl rfl (.inl ⟨rfl, wrap_in (by omega)⟩)) ?_
          refine VL.r (.inl rfl) rfl (by decide) (yr_assign rfl rfl) ?_
          refine VL.nil ?_
          refine VE.then_wp ?_
          refine V.block ?_
          refine V.loopc (G := Nat × (List Nat)) [(0, _), (4, _), (6, _), (7, _), (24, _), (25, _)] (fun ⟨c, m⟩ => j + 1 + c ≤ n ∧ m.length = n * n ∧ m = cCol xs n j (l.set (j * n + j) (sqrt32 (cS xs l n j j))) c) (fun ⟨c, m⟩ => [⟨some ⟨b23, 0, none⟩, fl m, n * n * 1, 26⟩]) (fun ⟨c, m⟩ => [(10, .int .i64 ((j + 1 + c : Nat) : Int))]) (fun ⟨c, m⟩ => n - (j + 1 + c)) (0, l.set (j * n + j) (sqrt32 (cS xs l n j k))) (.cons rfl (.cons rfl (.cons rfl (.cons rfl (.cons rfl (.cons rfl .nil)))))) (.cons (congrArg (fun i => some (Value.int .i64 i)) (by omega)) .nil) ?_ ?_ ?_
          · exact (fun w hw => hw)
          · exact (by obtain rfl : k = j := (by omega); exact ⟨by omega, by simp [hll], rfl⟩)
          rintro ⟨c, m⟩ ⟨hcn, hml, hm⟩
          show V _ _ _ [⟨some ⟨b23, 0, none⟩, fl m, n * n * 1, 26⟩] ([(10, .int .i64 ((j + 1 + c : Nat) : Int))] ++ [(0, _), (4, _), (6, _), (7, _), (24, _), (25, _)]) _ _
          have hij : j + 1 + c < n → (j + 1 + c) * n + j < n * n := fun h => hix h (by omega)
          refine V.seq ?_
          refine V.seq ?_
          refine V.region ?_
          refine VL.r (.inl rfl) rfl (by decide) (yr_move rfl rfl) ?_
          refine VL.r (.inl rfl) rfl (by decide) (yr_move rfl rfl) ?_
          refine VL.r (.inl rfl) rfl (by decide) (yr_icmp rfl (.inr (.inr (.inl rfl))) rfl rfl) ?_
          refine VL.nil ?_
          refine VE.then_wp ?_
          refine V.cond rfl (fun h5 => ?_) (fun h5 => ?_)
          · skip
            replace h5 := ic_lss h5
            refine V.skip ?_
            refine VE.then_wp ?_
            refine V.seq ?_
            refine V.block ?_
            refine V.seq ?_
            refine V.region ?_
            refine VL.r (.inl rfl) rfl (by decide) (yr_move rfl rfl) ?_
            refine VL.r (.inl rfl) rfl (by decide) (yr_move rfl rfl) ?_
            refine VL.r (.inl rfl) rfl (by decide) (yr_move rfl rfl) ?_
            refine VL.r (.inl rfl) rfl (by decide) (yr_mulN (j + 1 + c) n rfl rfl rfl (by omega) (by omega) (Nat.le_trans (mul_small (by omega) (by omega)) (by decide))) ?_
            refine VL.r (.inl rfl) rfl (by decide) (yr_move rfl rfl) ?_
            refine VL.r (.inl rfl) rfl (by decide) (yr_int rfl rfl rfl (.inl ⟨rfl, wrap_in (by omega)⟩)) ?_
            refine VL.q (.inl rfl) rfl (by decide) (yq_idx (k := (((j + 1 + c) * n) + j)) rfl Try.underlying23 sz26_Chol rfl rfl zz0 zz2 zz5 (by omega)) ?_
            refine VL.q (.inl rfl) rfl (by decide) (yq_loadF rfl fb26_Chol rfl zz0 (by omega)) ?_
            refine VL.r (.inl rfl) rfl (by decide) (yr_assign rfl rfl) ?_
            refine VL.nil ?_
            refine VE.then_wp ?_
            refine V.seq ?_
            refine V.seq ?_
            refine V.region ?_
            refine VL.r (.inl rfl) rfl (by decide) (yr_move rfl rfl) ?_
            refine VL.r (.inl rfl) rfl (by decide) (yr_move (u := .int .i64 0) rfl rfl) ?_
            refine VL.nil ?_
            refine VE.then_wp ?_
            refine V.block ?_
            refine V.loops (G := Nat) [(0, _), (4, _), (6, _), (7, _), (10, _), (24, _), (25, _), (87, _)] (fun (q : Nat) => q ≤ j) (fun (q : Nat) => [(11, .float .f32 (cX xs m n (j + 1 + c) j q)), (88, .int .i64 (q : Int))]) (fun (q : Nat) => j - q) 0 (.cons rfl (.cons rfl (.cons rfl (.cons rfl (.cons rfl (.cons rfl (.cons rfl (.cons rfl .nil)))))))) (.cons rfl (.cons rfl .nil)) ?_ ?_
            · exact (by omega)
            rintro q hq
            show V _ _ _ _ ([(11, .float .f32 (cX xs m n (j + 1 + c) j q)), (88, .int .i64 (q : Int))] ++ [(0, _), (4, _), (6, _), (7, _), (10, _), (24, _), (25, _), (87, _)]) _ _
            have hjq : j < n → q < j → j * n + q < n * n := fun h g => hix h (by omega)
            have hiq : j + 1 + c < n → q < j → (j + 1 + c) * n + q < n * n := fun h g => hix h (by omega)
            refine V.seq ?_
            refine V.region ?_
            refine VL.r (.inl rfl) rfl (by decide) (yr_icmp rfl (.inr (.inr (.inl rfl))) rfl rfl) ?_
            refine VL.nil ?_
            refine VE.then_wp ?_
            refine V.seq ?_
            refine V.cond rfl (fun h6 => ?_) (fun h6 => ?_)
            · skip
              replace h6 := ic_lss h6
              refine V.skip ?_
              refine VE.then_wp ?_
              refine V.seq ?_
              refine V.block ?_
              refine V.seq ?_
              refine V.region ?_
              refine VL.r (.inl rfl) rfl (by decide) (yr_move rfl rfl) ?_
              refine VL.r (.inl rfl) rfl (by decide) (yr_assign rfl rfl) ?_
              refine VL.nil ?_
              refine VE.then_wp ?_
              refine V.draw [(0, 0), (1, 0), (2, 0), (3, 0), (4, 0), (5, 0), (6, 0), (7, 0), (8, 0), (9, 0), (10, 0), (11, 0), (12, 0), (13, 0), (14, 0), (15, 0), (16, 0), (17, 0), (18, 0), (19, 0)] mixed_Chol (by kernel_rfl) (by intro j o hj; simp at hj) ?_
              refine SW.r rfl (.inl rfl) rfl (by decide) (yr_move rfl rfl) ?_
              refine SW.r rfl (.inl rfl) rfl (by decide) (yr_move rfl rfl) ?_
              refine SW.r rfl (.inl rfl) rfl (by decide) (yr_move rfl rfl) ?_
              refine SW.r rfl (.inl rfl) rfl (by decide) (yr_move rfl rfl) ?_
              refine SW.r rfl (.inl rfl) rfl (by decide) (yr_mulN (j + 1 + c) n rfl rfl rfl (by omega) (by omega) (Nat.le_trans (mul_small (by omega) (by omega)) (by decide))) ?_
              refine SW.r rfl (.inl rfl) rfl (by decide) (yr_move rfl rfl) ?_
              refine SW.r rfl (.inl rfl) rfl (by decide) (yr_int rfl rfl rfl (.inl ⟨rfl, wrap_in (by omega)⟩)) ?_
              refine SW.q rfl (.inl rfl) rfl (by decide) (yq_idx (k := (((j + 1 + c) * n) + q)) rfl Try.underlying23 sz26_Chol rfl rfl zz0 zz2 zz5 (by omega)) ?_
              refine SW.q rfl (.inl rfl) rfl (by decide) (yq_loadF rfl fb26_Chol rfl zz0 (by omega)) ?_
              refine SW.r rfl (.inl rfl) rfl (by decide) (yr_move rfl rfl) ?_
              refine SW.r rfl (.inl rfl) rfl (by decide) (yr_move rfl rfl) ?_
              refine SW.r rfl (.inl rfl) rfl (by decide) (yr_move rfl rfl) ?_
              refine SW.r rfl (.inl rfl) rfl (by decide) (yr_mulN j n rfl rfl rfl (by omega) (by omega) (Nat.le_trans (mul_small (by omega) (by omega)) (by decide))) ?_
              refine SW.r rfl (.inl rfl) rfl (by decide) (yr_move rfl rfl) ?_
              refine SW.r rfl (.inl rfl) rfl (by decide) (yr_int rfl rfl rfl (.inl ⟨rfl, wrap_in (by omega)⟩)) ?_
              refine SW.q rfl (.inl rfl) rfl (by decide) (yq_idx (k := ((j * n) + q)) rfl Try.underlying23 sz26_Chol rfl rfl zz0 zz2 zz5 (by omega)) ?_
              refine SW.q rfl (.inl rfl) rfl (by decide) (yq_loadF rfl fb26_Chol rfl zz0 (by omega)) ?_
              refine SW.r rfl (.inl rfl) rfl (by decide) (yr_float rfl (.inr (.inr (.inl rfl))) rfl rfl) ?_
              refine SW.r rfl (.inl rfl) rfl (by decide) (yr_float rfl (.inr (.inl rfl)) rfl rfl) ?_
              refine SW.r rfl (.inl rfl) rfl (by decide) (yr_assign rfl rfl) ?_
              refine SW.done ?_
              refine VE.block_normal ?_
              refine VE.then_wp ?_
              refine V.region ?_
              refine VL.r (.inl rfl) rfl (by decide) (yr_int rfl rfl rfl (.inl ⟨rfl, wrap_in (by omega)⟩)) ?_
              refine VL.r (.inl rfl) rfl (by decide) (yr_move rfl rfl) ?_
              refine VL.nil ?_
              refine VE.round (q + 1) ?_ ?_ ?_ ?_ ?_
              · exact (.cons rfl (.cons rfl .nil))
              · exact (.cons rfl (.cons rfl (.cons rfl (.cons rfl (.cons rfl (.cons rfl (.cons rfl (.cons rfl .nil))))))))
              · exact (fun w hw => hw)
              · omega
              · (try dsimp only); omega
            · skip
              replace h6 := ic_lss' h6
              refine V.exit ?_
              refine VE.then_exit ?_
              refine VE.then_exit ?_
              refine VE.block_here ?_
              refine VE.then_wp ?_
              refine V.region ?_
              refine VL.r (.inl rfl) rfl (by decide) (yr_move rfl rfl) ?_
              refine VL.r (.inl rfl) rfl (by decide) (yr_move rfl rfl) ?_
              refine VL.r (.inl rfl) rfl (by decide) (yr_move rfl rfl) ?_
              refine VL.r (.inl rfl) rfl (by decide) (yr_mulN (j + 1 + c) n rfl rfl rfl (by omega) (by omega) (Nat.le_trans (mul_small (by omega) (by omega)) (by decide))) ?_
              refine VL.r (.inl rfl) rfl (by decide) (yr_move rfl rfl) ?_
              refine VL.r (.inl rfl) rfl (by decide) (yr_int rfl rfl rfl (.inl ⟨rfl, wrap_in (by omega)⟩)) ?_
              refine VL.r (.inl rfl) rfl (by decide) (yr_move rfl rfl) ?_
              refine VL.r (.inl rfl) rfl (by decide) (yr_move rfl rfl) ?_
              refine VL.r (.inl rfl) rfl (by decide) (yr_move rfl rfl) ?_
              refine VL.r (.inl rfl) rfl (by decide) (yr_move rfl rfl) ?_
              refine VL.r (.inl rfl) rfl (by decide) (yr_mulN j n rfl rfl rfl (by omega) (by omega) (Nat.le_trans (mul_small (by omega) (by omega)) (by decide))) ?_
              refine VL.r (.inl rfl) rfl (by decide) (yr_move rfl rfl) ?_
              refine VL.r (.inl rfl) rfl (by decide) (yr_int rfl rfl rfl (.inl ⟨rfl, wrap_in (by omega)⟩)) ?_
              refine VL.q (.inl rfl) rfl (by decide) (yq_idx (k := ((j * n) + j)) rfl Try.underlying23 sz26_Chol rfl rfl zz0 zz2 zz5 (by omega)) ?_
              refine VL.q (.inl rfl) rfl (by decide) (yq_loadF rfl fb26_Chol rfl zz0 (by omega)) ?_
              refine VL.r (.inl rfl) rfl (by decide) (yr_float rfl (.inr (.inr (.inr rfl))) rfl rfl) ?_
              refine VL.q (.inl rfl) rfl (by decide) (yq_idx (k := (((j + 1 + c) * n) + j)) rfl Try.underlying23 sz26_Chol rfl rfl zz0 zz2 zz5 (by omega)) ?_
              refine VL.s (.inl rfl) rfl (yc_store rfl sz26_Chol rfl rfl zz6 (.inl ⟨rfl, rfl⟩) rfl (by rw [fl_length]; omega) (by decide) (fl_set _ _ _)) ?_
              rintro ⟨⟩
              refine VL.nil ?_
              refine VE.block_normal ?_
              refine VE.then_wp ?_
              refine V.region ?_
              refine VL.r (.inl rfl) rfl (by decide) (yr_move rfl rfl) ?_
              refine VL.r (.inl rfl) rfl (by decide) (yr_int rfl rfl rfl (.inl ⟨rfl, wrap_in (by omega)⟩)) ?_
              refine VL.r (.inl rfl) rfl (by decide) (yr_assign rfl rfl) ?_
              refine VL.nil ?_
              refine VE.round (c + 1, m.set ((j + 1 + c) * n + j) (fop .quo .f32 (cX xs m n (j + 1 + c) j q) (m.getD (j * n + j) 0))) ?_ ?_ ?_ ?_ ?_
              · exact (.cons (congrArg (fun i => some (Value.int .i64 i)) (by omega)) .nil)
              · exact (.cons rfl (.cons rfl (.cons rfl (.cons rfl (.cons rfl (.cons rfl .nil))))))
              · exact (fun w hw => hw)
              · obtain rfl : q = j := by omega
                refine ⟨by omega, by simp [hml], ?_⟩
                rw [cCol, ← hm]
              · (try dsimp only); omega
          · skip
            replace h5 := ic_lss' h5
            refine V.exit ?_
            refine VE.then_exit ?_
            refine VE.then_exit ?_
            refine VE.block_here ?_
            refine VE.block_normal ?_
            refine VE.then_wp ?_
            refine V.region ?_
            refine VL.r (.inl rfl) rfl (by decide) (yr_int rfl rfl rfl (.inl ⟨rfl, wrap_in (by omega)⟩)) ?_
            refine VL.r (.inl rfl) rfl (by decide) (yr_move rfl rfl) ?_
            refine VL.nil ?_
            refine VE.round (j + 1, m) ?_ ?_ ?_ ?_ ?_
            · exact (.cons rfl .nil)
            · exact (.cons rfl (.cons rfl (.cons rfl (.cons rfl .nil))))
            · exact (fun w hw => hw)
            · refine ⟨by omega, hml, ?_, fun t ht => ?_⟩
              · rw [hm, chol, ← hl, show n - (j + 1) = c by omega]
              · rcases Nat.lt_or_ge t j with g | g
                · exact hc t g
                · obtain rfl : t = j := by omega
                  obtain rfl : k = t := by omega
                  rw [← hl]; assumption
            · (try dsimp only); omega
    · skip
      replace h2 := ic_lss' h2
      refine V.exit ?_
      refine VE.then_exit ?_
      refine VE.then_exit ?_
      refine VE.block_here ?_
      refine VE.then_wp ?_
      refine V.seq ?_
      refine V.region ?_
      refine VL.r (.inl rfl) rfl (by decide) (yr_move rfl rfl) ?_
      refine VL.r (.inl rfl) rfl (by decide) (yr_assign rfl rfl) ?_
      refine VL.r (.inl rfl) rfl (by decide) (yr_assign (u := .bool true) rfl rfl) ?_
      refine VL.nil ?_
      refine VE.then_wp ?_
      refine V.ret ?_
      refine ret2 rfl rfl rfl (by nofun) (by nofun) (fun w1 hw => ?_)
      obtain rfl : n = j := by omega
      have hs : cholOk xs n = true := chol_yes (by omega) hc
      have hso : cholOf xs n = l := by rw [cholOf_yes hs, hl]
      exact ⟨(some ⟨b23, 0, none⟩, n * n), by rw [hso, hs, hll], by rw [hso]; exact hw.out1⟩
end Go.Proofs.Ytgeflnjjppgooaa.Q

namespace Go.Proofs.Ytgeflnjjppgooaa
open Go.RowKit
noncomputable def ftOk (xss : List (List Nat)) (ws gs : List Nat) (x : Nat) : Bool :=
  normOk xss ws gs x && (cholOk (normA xss gs x) (xss.getD 0 []).length && solveOk (cholOf (normA xss gs x) (xss.getD 0 []).length) (normB xss ws gs))
noncomputable def ftD (xss : List (List Nat)) (ws gs : List Nat) (x : Nat) : List Nat := if ftOk xss ws gs x then solveOf (cholOf (normA xss gs x) (xss.getD 0 []).length) (normB xss ws gs) else []
section
variable {xss : List (List Nat)} {ws gs : List Nat} {x : Nat}
theorem ft_no (h : ftOk xss ws gs x = false) : ftD xss ws gs x = [] := by simp [ftD, h]
theorem ft_no1 (h : normOk xss ws gs x = false) : ftOk xss ws gs x = false := by simp [ftOk, h]
theorem ft_no2 (h : cholOk (normA xss gs x) (xss.getD 0 []).length = false) : ftOk xss ws gs x = false := by simp only [ftOk, h, Bool.false_and, Bool.and_false]
theorem ft_is (h1 : normOk xss ws gs x = true) (h2 : cholOk (normA xss gs x) (xss.getD 0 []).length = true) :
    ftOk xss ws gs x = solveOk (cholOf (normA xss gs x) (xss.getD 0 []).length) (normB xss ws gs) ∧ ftD xss ws gs x = solveOf (cholOf (normA xss gs x) (xss.getD 0 []).length) (normB xss ws gs) := by
  have e : ftOk xss ws gs x = solveOk (cholOf (normA xss gs x) (xss.getD 0 []).length) (normB xss ws gs) := by simp only [ftOk, h1, h2, Bool.true_and]
  refine ⟨e, ?_⟩
  unfold ftD
  rw [e]
  cases hs : solveOk (cholOf (normA xss gs x) (xss.getD 0 []).length) (normB xss ws gs) with
  | true => rfl
  | false => rw [solveOf_no hs]; rfl
theorem side_norm (h : normOk xss ws gs x = true) : (xss.getD 0 []).length = side (normA xss gs x).length := by
  have hv := ok_valid h
  rw [normA_length]
  exact (side_of hv.2.2.2.2.2.2.1 hv.2.2.2.2.2.2.2 rfl).symm
theorem ad_len (h : normOk xss ws gs x = true) : (normAD xss ws gs x).length ≤ 64 ∧ (normBD xss ws gs x).length ≤ 8 ∧ (xss.getD 0 []).length = side (normAD xss ws gs x).length := by
  have hv := ok_valid h
  have h8 := hv.2.2.2.2.2.2.2
  rw [normAD_yes h, normBD_yes h]
  refine ⟨?_, by rw [normB_length]; exact h8, side_norm h⟩
  rw [normA_length]; exact Nat.mul_le_mul h8 h8
theorem ft_no3 (h1 : normOk xss ws gs x = true) (h2 : cholOk (normAD xss ws gs x) (xss.getD 0 []).length = false) : ftOk xss ws gs x = false := by rw [normAD_yes h1] at h2; exact ft_no2 h2
theorem ft_is3 (h1 : normOk xss ws gs x = true) (h2 : cholOk (normAD xss ws gs x) (xss.getD 0 []).length = true) :
    ftOk xss ws gs x = solveOk (cholOf (normAD xss ws gs x) (xss.getD 0 []).length) (normBD xss ws gs x) ∧ ftD xss ws gs x = solveOf (cholOf (normAD xss ws gs x) (xss.getD 0 []).length) (normBD xss ws gs x) := by
  rw [normAD_yes h1] at h2 ⊢; rw [normBD_yes h1]; exact ft_is h1 h2
theorem can_ftD (xss : List (List Nat)) (ws gs : List Nat) (x : Nat) : ∀ y ∈ ftD xss ws gs x, Can .f32 y := by
  unfold ftD; split
  · exact can_solveOf (nmB_cn _ _ _ _ _)
  · intro y hy; cases hy
theorem length_ftD (xss : List (List Nat)) (ws gs : List Nat) (x : Nat) : (ftD xss ws gs x).length ≤ 8 := by
  unfold ftD; split
  · exact length_solveOf _ _
  · simp
end
end Go.Proofs.Ytgeflnjjppgooaa

namespace Go.Proofs.Ytgeflnjjppgooaa.Q
open Go.RowKit
set_option linter.unusedVariables false
set_option linter.unusedSimpArgs false
set_option maxRecDepth 20000
set_option maxHeartbeats 800000
attribute [local irreducible] wqList Wq
theorem known33_Fit : Known Try.prog 33 := Known.mk' Try.func33 (by kernel_rfl)
theorem known34_Fit : Known Try.prog 34 := Known.mk' Try.func34 (by kernel_rfl)
theorem known35_Fit : Known Try.prog 35 := Known.mk' Try.func35 (by kernel_rfl)
theorem known50_Fit : Known Try.prog 50 := Known.mk' Try.func50 (by kernel_rfl)
theorem known51_Fit : Known Try.prog 51 := Known.mk' Try.func51 (by kernel_rfl)
theorem sz30_Fit : (Try.prog.info? 30).map (·.size) = some 3 := by kernel_rfl
theorem known10_Fit : Known Try.prog 10 := Known.mk' Try.func10 (by kernel_rfl)
theorem known25_Fit : Known Try.prog 25 := Known.mk' Try.func25 (by kernel_rfl)
theorem known26_Fit : Known Try.prog 26 := Known.mk' Try.func26 (by kernel_rfl)
theorem c_specFit [PhC] {w : World} {a a1 a2 : Option Addr} {c c1 c2 : Nat} {f : Nat → Option Addr × Nat} {xss : List (List Nat)} {ws gs : List Nat} {x : Nat} (hA : Cl w a (hd f xss)) (hR : Rws w f xss) (hW : Cl w a1 (fl ws)) (hG : Cl w a2 (fl gs)) (hsz : bulk xss + ws.length + gs.length ≤ 1050000) : New Try.prog 18 [.agg #[.slice a xss.length c, .slice a1 ws.length c1, .slice a2 gs.length c2], .float .f32 x] w (fun p : Option Addr × Nat => .tuple #[.slice p.1 (ftD xss ws gs x).length p.2, .bool (ftOk xss ws gs x)]) (fun p => [⟨p.1, fl (ftD xss ws gs x), p.2 * 1, 26⟩]) := by
  refine New.enter Try.func18 rfl Try.ntmps18 (Nat.le_of_ble_eq_true rfl) ?_
  have hr : ∀ i, i < xss.length → (xss.getD i []).length ≤ 1050000 := fun i hi => by have := bulk_row hi; omega
  have hxl : xss.length ≤ bulk xss := by unfold bulk; omega
  refine V.seq ?_
  refine V.region ?_
  refine VL.new1 (.inl rfl) rfl (by decide) (yn_box rfl rfl (.inr ⟨rfl, rfl⟩)) ?_
  intro b2
  refine VL.r (.inl rfl) rfl (by decide) (yr_assign (u := .slice none 0 0) rfl rfl) ?_
  refine VL.r (.inl rfl) rfl (by decide) (yr_assign (u := .bool false) rfl rfl) ?_
  refine VL.nil ?_
  refine VE.then_wp ?_
  refine V.seq ?_
  refine V.seq ?_
  refine V.region ?_
  refine VL.q (.inl rfl) rfl (by decide) (yq_callf rfl known33_Fit (.cons rfl .nil) (fun w hw => (c_l07Is zz1 zz1 zz3 zz1 zz1 (by omega)))) ?_
  refine VL.r (.inl rfl) rfl (by decide) (yr_not rfl rfl) ?_
  refine VL.r (.inl rfl) rfl (by decide) (yr_move rfl rfl) ?_
  refine VX.split 12 _ rfl (fun h1 => ?_) (fun h1 => ?_)
  · skip
    replace h1 := bnot_t h1
    refine VL.no rfl rfl rfl rfl rfl (by decide) ?_
    refine VL.no rfl rfl rfl rfl rfl (by decide) ?_
    refine VL.no rfl rfl rfl rfl rfl (by decide) ?_
    refine VL.r (.inl rfl) rfl (by decide) (yr_pick_t (u := .bool true) rfl rfl rfl) ?_
    refine VL.nil ?_
    refine VE.then_wp ?_
    refine V.condT rfl ?_
    refine V.seq ?_
    refine V.region ?_
    refine VL.r (.inl rfl) rfl (by decide) (yr_assign (u := .slice none 0 0) rfl rfl) ?_
    refine VL.r (.inl rfl) rfl (by decide) (yr_assign (u := .bool false) rfl rfl) ?_
    refine VL.nil ?_
    refine VE.then_wp ?_
    refine V.ret ?_
    refine VE.then_ret ?_
    refine ret2 rfl rfl rfl (by nofun) (by nofun) (fun w1 hw => ?_)
    have hf : ftOk xss ws gs x = false := ft_no1 (by first | (simp only [normOk, *, Bool.false_and, Bool.and_false, Bool.and_true]; done) | (simp only [normOk, least, *, Bool.false_and, Bool.and_false, Bool.and_true]; done))
    exact ⟨(none, 0), by rw [ft_no hf, hf]; rfl, hw.below, by rw [ft_no hf]; simp [fl, Ent.at], List.pairwise_singleton _ _⟩
  · skip
    replace h1 := bnot_f h1
    refine VL.r (.inr ⟨_, _, _, rfl, rfl, rfl⟩) rfl (by decide) (yr_move rfl rfl) ?_
    refine VL.q (.inr ⟨_, _, _, rfl, rfl, rfl⟩) rfl (by decide) (yq_callf rfl known34_Fit (.cons rfl .nil) (fun w hw => c_l03Least _)) ?_
    refine VL.r (.inr ⟨_, _, _, rfl, rfl, rfl⟩) rfl (by decide) (yr_not rfl rfl) ?_
    refine VL.r (.inl rfl) rfl (by decide) (yr_pick_f rfl rfl rfl) ?_
    refine VL.nil ?_
    refine VE.then_wp ?_
    refine V.cond rfl (fun h3 => ?_) (fun h3 => ?_)
    · skip
      replace h3 := bnot_t h3
      refine V.seq ?_
      refine V.region ?_
      refine VL.r (.inl rfl) rfl (by decide) (yr_assign (u := .slice none 0 0) rfl rfl) ?_
      refine VL.r (.inl rfl) rfl (by decide) (yr_assign (u := .bool false) rfl rfl) ?_
      refine VL.nil ?_
      refine VE.then_wp ?_
      refine V.ret ?_
      refine VE.then_ret ?_
      refine ret2 rfl rfl rfl (by nofun) (by nofun) (fun w1 hw => ?_)
      have hf : ftOk xss ws gs x = false := ft_no1 (by first | (simp only [normOk, *, Bool.false_and, Bool.and_false, Bool.and_true]; done) | (simp only [normOk, least, *, Bool.false_and, Bool.and_false, Bool.and_true]; done))
      exact ⟨(none, 0), by rw [ft_no hf, hf]; rfl, hw.below, by rw [ft_no hf]; simp [fl, Ent.at], List.pairwise_singleton _ _⟩
    · skip
      replace h3 := bnot_f h3
      have hs : normOk xss ws gs x = true := by first | (simp only [normOk, *, Bool.false_and, Bool.and_false, Bool.and_true]; done) | (simp only [normOk, least, *, Bool.false_and, Bool.and_false, Bool.and_true]; done)
      have hval := ok_valid hs
      have hlA : (normA xss gs x).length = (xss.getD 0 []).length * (xss.getD 0 []).length := normA_length _ _ _
      have hlB : (normB xss ws gs).length = (xss.getD 0 []).length := normB_length _ _ _
      have hn8 : (xss.getD 0 []).length ≤ 8 := hval.2.2.2.2.2.2.2
      have hn1 : 1 ≤ (xss.getD 0 []).length := hval.2.2.2.2.2.2.1
      have hnn : (xss.getD 0 []).length * (xss.getD 0 []).length ≤ 64 := Nat.mul_le_mul hn8 hn8
      have hcl := length_cholOf (a := normA xss gs x) hn8
      refine V.skip ?_
      refine VE.then_wp ?_
      refine V.seq ?_
      refine V.region ?_
      refine VL.r (.inl rfl) rfl (by decide) (yr_move rfl rfl) ?_
      refine VL.new (.inl rfl) rfl (by decide) (yn_callf rfl known35_Fit (.cons rfl (.cons rfl .nil)) (fun w hw => (c_l07Normal zz1 zz1 zz3 zz1 zz1 (by omega) (by assumption)))) ?_
      rintro ⟨b19, e19⟩
      refine VL.r (.inl rfl) rfl (by decide) (yr_move rfl rfl) ?_
      refine VL.r (.inl rfl) rfl (by decide) (yr_extract rfl rfl rfl (by nofun)) ?_
      refine VL.r (.inl rfl) rfl (by decide) (yr_extract rfl rfl rfl (by nofun)) ?_
      refine VL.r (.inl rfl) rfl (by decide) (yr_assign rfl rfl) ?_
      refine VL.r (.inl rfl) rfl (by decide) (yr_assign rfl rfl) ?_
      refine VL.nil ?_
      refine VE.then_wp ?_
      refine V.seq ?_
      refine V.region ?_
      refine VL.r (.inl rfl) rfl (by decide) (yr_move rfl rfl) ?_
      refine VL.r (.inl rfl) rfl (by decide) (yr_move rfl rfl) ?_
      refine VL.r (.inl rfl) rfl (by decide) (yr_len rfl Try.underlying23 rfl) ?_
      refine VL.new1 (.inl rfl) rfl (by decide) (yn_callf rfl known50_Fit (.cons rfl (.cons rfl .nil)) (fun w hw => (by have h9 := c_l07Cholesky (a := some ⟨b19, 0, none⟩) (c := (xss.getD 0 []).length * (xss.getD 0 []).length) (xs := normA xss gs x) (n := (xss.getD 0 []).length) (w := w) zz1 hlA hn8 (by omega); rw [hlA] at h9; exact h9))) ?_
      rintro ⟨a26, c26⟩
      refine VL.r (.inl rfl) rfl (by decide) (yr_move rfl rfl) ?_
      refine VL.r (.inl rfl) rfl (by decide) (yr_extract rfl rfl rfl (by nofun)) ?_
      refine VL.r (.inl rfl) rfl (by decide) (yr_extract rfl rfl rfl (by nofun)) ?_
      refine VL.r (.inl rfl) rfl (by decide) (yr_assign rfl rfl) ?_
      refine VL.r (.inl rfl) rfl (by decide) (yr_assign rfl rfl) ?_
      refine VL.nil ?_
      refine VE.then_wp ?_
      refine V.seq ?_
      refine V.seq ?_
      refine V.region ?_
      refine VL.r (.inl rfl) rfl (by decide) (yr_move rfl rfl) ?_
      refine VL.r (.inl rfl) rfl (by decide) (yr_not rfl rfl) ?_
      refine VL.nil ?_
      refine VE.then_wp ?_
      refine V.cond rfl (fun h4 => ?_) (fun h4 => ?_)
      · skip
        replace h4 := bnot_t h4
        refine V.seq ?_
        refine V.region ?_
        refine VL.r (.inl rfl) rfl (by decide) (yr_assign (u := .slice none 0 0) rfl rfl) ?_
        refine VL.r (.inl rfl) rfl (by decide) (yr_assign (u := .bool false) rfl rfl) ?_
        refine VL.nil ?_
        refine VE.then_wp ?_
        refine V.ret ?_
        refine VE.then_ret ?_
        refine ret2 rfl rfl rfl (by nofun) (by nofun) (fun w1 hw => ?_)
        have hf : ftOk xss ws gs x = false := ft_no2 (by assumption)
        exact ⟨(none, 0), by rw [ft_no hf, hf]; rfl, hw.below, by rw [ft_no hf]; simp [fl, Ent.at], List.pairwise_singleton _ _⟩
      · skip
        replace h4 := bnot_f h4
        refine V.skip ?_
        refine VE.then_wp ?_
        refine V.seq ?_
        refine V.region ?_
        refine VL.r (.inl rfl) rfl (by decide) (yr_move rfl rfl) ?_
        refine VL.r (.inl rfl) rfl (by decide) (yr_move rfl rfl) ?_
        refine VL.new1 (.inl rfl) rfl (by decide) (yn_callf rfl known51_Fit (.cons rfl (.cons rfl .nil)) (fun w hw => (by have h9 := c_specSolve (a := a26) (c := c26) (b := some ⟨e19, 0, none⟩) (d := (xss.getD 0 []).length) (l := cholOf (normA xss gs x) ((xss.getD 0 []).length)) (bs := normB xss ws gs) (w := w) zz1 zz1 (by omega) (by omega); rw [hlB] at h9; exact h9))) ?_
        rintro ⟨a33, c33⟩
        refine VL.r (.inl rfl) rfl (by decide) (yr_extract rfl rfl rfl (by nofun)) ?_
        refine VL.r (.inl rfl) rfl (by decide) (yr_extract rfl rfl rfl (by nofun)) ?_
        refine VL.r (.inl rfl) rfl (by decide) (yr_assign rfl rfl) ?_
        refine VL.r (.inl rfl) rfl (by decide) (yr_assign rfl rfl) ?_
        refine VL.nil ?_
        refine VE.then_wp ?_
        refine V.ret ?_
        refine ret2 rfl rfl rfl (by nofun) (by nofun) (fun w1 hw => ?_)
        obtain ⟨q1, q2⟩ := ft_is hs (by assumption)
        exact ⟨(a33, c33), by rw [q1, q2] <;> rfl, by rw [q2]; exact hw.out1⟩
theorem c_implFit {w : World} {a a1 a2 : Option Addr} {c c1 c2 : Nat} {f : Nat → Option Addr × Nat} {xss : List (List Nat)} {ws gs : List Nat} {x : Nat} (hA : Cl w a (hd f xss)) (hR : Rws w f xss) (hW : Cl w a1 (fl ws)) (hG : Cl w a2 (fl gs)) (hsz : bulk xss + ws.length + gs.length ≤ 1050000) : New Try.prog 19 [.agg #[.slice a xss.length c, .slice a1 ws.length c1, .slice a2 gs.length c2], .float .f32 x] w (fun p : Option Addr × Nat => .tuple #[.slice p.1 (ftD xss ws gs x).length p.2, .bool (ftOk xss ws gs x)]) (fun p => [⟨p.1, fl (ftD xss ws gs x), p.2 * 1, 26⟩]) := by
  refine New.enter Try.func19 rfl Try.ntmps19 (Nat.le_of_ble_eq_true rfl) ?_
  have hr : ∀ i, i < xss.length → (xss.getD i []).length ≤ 1050000 := fun i hi => by have := bulk_row hi; omega
  have hxl : xss.length ≤ bulk xss := by unfold bulk; omega
  refine V.seq ?_
  refine V.region ?_
  refine VL.new1 (.inl rfl) rfl (by decide) (yn_box rfl rfl (.inr ⟨rfl, rfl⟩)) ?_
  intro b2
  refine VL.r (.inl rfl) rfl (by decide) (yr_assign (u := .slice none 0 0) rfl rfl) ?_
  refine VL.r (.inl rfl) rfl (by decide) (yr_assign (u := .bool false) rfl rfl) ?_
  refine VL.nil ?_
  refine VE.then_wp ?_
  refine V.seq ?_
  refine V.region ?_
  refine VL.q (.inl rfl) rfl (by decide) (yq_loadS rfl Try.underlying30 sz30_Fit rfl zz0 rfl rfl rfl) ?_
  refine VL.r (.inl rfl) rfl (by decide) (yr_move rfl rfl) ?_
  refine VL.new (.inl rfl) rfl (by decide) (yn_callf rfl known10_Fit (.cons rfl (.cons rfl .nil)) (fun w hw => (c_implNorm zz1 zz3 zz1 zz1 (by omega)))) ?_
  rintro ⟨⟨a13, c13⟩, ⟨d13, e13⟩⟩
  refine VL.r (.inl rfl) rfl (by decide) (yr_move rfl rfl) ?_
  refine VL.r (.inl rfl) rfl (by decide) (yr_extract rfl rfl rfl (by nofun)) ?_
  refine VL.r (.inl rfl) rfl (by decide) (yr_extract rfl rfl rfl (by nofun)) ?_
  refine VL.r (.inl rfl) rfl (by decide) (yr_extract rfl rfl rfl (by nofun)) ?_
  refine VL.r (.inl rfl) rfl (by decide) (yr_assign rfl rfl) ?_
  refine VL.r (.inl rfl) rfl (by decide) (yr_assign rfl rfl) ?_
  refine VL.r (.inl rfl) rfl (by decide) (yr_assign rfl rfl) ?_
  refine VL.nil ?_
  refine VE.then_wp ?_
  refine V.seq ?_
  refine V.seq ?_
  refine V.region ?_
  refine VL.r (.inl rfl) rfl (by decide) (yr_move rfl rfl) ?_
  refine VL.r (.inl rfl) rfl (by decide) (yr_not rfl rfl) ?_
  refine VL.nil ?_
  refine VE.then_wp ?_
  refine V.cond rfl (fun h1 => ?_) (fun h1 => ?_)
  · skip
    replace h1 := bnot_t h1
    refine V.seq ?_
    refine V.region ?_
    refine VL.r (.inl rfl) rfl (by decide) (yr_assign (u := .slice none 0 0) rfl rfl) ?_
    refine VL.r (.inl rfl) rfl (by decide) (yr_assign (u := .bool false) rfl rfl) ?_
    refine VL.nil ?_
    refine VE.then_wp ?_
    refine V.ret ?_
    refine VE.then_ret ?_
    refine ret2 rfl rfl rfl (by nofun) (by nofun) (fun w1 hw => ?_)
    have hf : ftOk xss ws gs x = false := ft_no1 (by assumption)
    exact ⟨(none, 0), by rw [ft_no hf, hf]; rfl, hw.below, by rw [ft_no hf]; simp [fl, Ent.at], List.pairwise_singleton _ _⟩
  · skip
    replace h1 := bnot_f h1
    have hs := h1
    obtain ⟨hlA, hlB, hnq⟩ := ad_len hs
    have hn8 : (xss.getD 0 []).length ≤ 8 := (ok_valid hs).2.2.2.2.2.2.2
    have hcl := length_cholOf (a := normAD xss ws gs x) hn8
    refine V.skip ?_
    refine VE.then_wp ?_
    refine V.seq ?_
    refine V.region ?_
    refine VL.r (.inl rfl) rfl (by decide) (yr_move rfl rfl) ?_
    refine VL.new1 (.inl rfl) rfl (by decide) (yn_callf rfl known25_Fit (.cons rfl .nil) (fun w hw => (c_implChol (xs := normAD xss ws gs x) zz1 (by omega) hnq))) ?_
    rintro ⟨a21, c21⟩
    refine VL.r (.inl rfl) rfl (by decide) (yr_move rfl rfl) ?_
    refine VL.r (.inl rfl) rfl (by decide) (yr_extract rfl rfl rfl (by nofun)) ?_
    refine VL.r (.inl rfl) rfl (by decide) (yr_extract rfl rfl rfl (by nofun)) ?_
    refine VL.r (.inl rfl) rfl (by decide) (yr_assign rfl rfl) ?_
    refine VL.r (.inl rfl) rfl (by decide) (yr_assign rfl rfl) ?_
    refine VL.nil ?_
    refine VE.then_wp ?_
    refine V.seq ?_
    refine V.seq ?_
    refine V.region ?_
    refine VL.r (.inl rfl) rfl (by decide) (yr_move rfl rfl) ?_
    refine VL.r (.inl rfl) rfl (by decide) (yr_not rfl rfl) ?_
    refine VL.nil ?_
    refine VE.then_wp ?_
    refine V.cond rfl (fun h2 => ?_) (fun h2 => ?_)
    · skip
      replace h2 := bnot_t h2
      refine V.seq ?_
      refine V.region ?_
      refine VL.r (.inl rfl) rfl (by decide) (yr_assign (u := .slice none 0 0) rfl rfl) ?_
      refine VL.r (.inl rfl) rfl (by decide) (yr_assign (u := .bool false) rfl rfl) ?_
      refine VL.nil ?_
      refine VE.then_wp ?_
      refine V.ret ?_
      refine VE.then_ret ?_
      refine ret2 rfl rfl rfl (by nofun) (by nofun) (fun w1 hw => ?_)
      have hf : ftOk xss ws gs x = false := ft_no3 hs (by assumption)
      exact ⟨(none, 0), by rw [ft_no hf, hf]; rfl, hw.below, by rw [ft_no hf]; simp [fl, Ent.at], List.pairwise_singleton _ _⟩
    · skip
      replace h2 := bnot_f h2
      refine V.skip ?_
      refine VE.then_wp ?_
      refine V.seq ?_
      refine V.region ?_
      refine VL.r (.inl rfl) rfl (by decide) (yr_move rfl rfl) ?_
      refine VL.r (.inl rfl) rfl (by decide) (yr_move rfl rfl) ?_
      refine VL.new1 (.inl rfl) rfl (by decide) (yn_callf rfl known26_Fit (.cons rfl (.cons rfl .nil)) (fun w hw => (c_implSolve (l := cholOf (normAD xss ws gs x) ((xss.getD 0 []).length)) (bs := normBD xss ws gs x) zz1 zz1 (by omega) (by omega)))) ?_
      rintro ⟨a28, c28⟩
      refine VL.r (.inl rfl) rfl (by decide) (yr_extract rfl rfl rfl (by nofun)) ?_
      refine VL.r (.inl rfl) rfl (by decide) (yr_extract rfl rfl rfl (by nofun)) ?_
      refine VL.r (.inl rfl) rfl (by decide) (yr_assign rfl rfl) ?_
      refine VL.r (.inl rfl) rfl (by decide) (yr_assign rfl rfl) ?_
      refine VL.nil ?_
      refine VE.then_wp ?_
      refine V.ret ?_
      refine ret2 rfl rfl rfl (by nofun) (by nofun) (fun w1 hw => ?_)
      obtain ⟨q1, q2⟩ := ft_is3 hs (by assumption)
      exact ⟨(a28, c28), by rw [q1, q2] <;> rfl, by rw [q2]; exact hw.out1⟩
end Go.Proofs.Ytgeflnjjppgooaa.Q

namespace Go.Proofs.Ytgeflnjjppgooaa.Q
open Go.RowKit
set_option linter.unusedVariables false
set_option linter.unusedSimpArgs false
set_option maxRecDepth 20000
set_option maxHeartbeats 800000
attribute [local irreducible] wqList Wq
theorem sz25_FitL : (Try.prog.info? 25).map (·.size) = some 3 := by kernel_rfl
theorem known7_FitL : Known Try.prog 7 := Known.mk' Try.func7 (by kernel_rfl)
theorem known9_FitL : Known Try.prog 9 := Known.mk' Try.func9 (by kernel_rfl)
theorem known18_FitL : Known Try.prog 18 := Known.mk' Try.func18 (by kernel_rfl)
theorem zero30_FitL : (Try.prog.info? 30).bind (·.zero) = some (Value.agg #[Value.slice none 0 0, Value.slice none 0 0, Value.slice none 0 0]) := by kernel_rfl
theorem sz30_FitL : (Try.prog.info? 30).map (·.size) = some 3 := by kernel_rfl
theorem known19_FitL : Known Try.prog 19 := Known.mk' Try.func19 (by kernel_rfl)
theorem known11_FitL : Known Try.prog 11 := Known.mk' Try.func11 (by kernel_rfl)
theorem mixed_FitL : Try.prog.follows .mixedOrders = true := by kernel_rfl
theorem known12_FitL : Known Try.prog 12 := Known.mk' Try.func12 (by kernel_rfl)
theorem known13_FitL : Known Try.prog 13 := Known.mk' Try.func13 (by kernel_rfl)
theorem known14_FitL : Known Try.prog 14 := Known.mk' Try.func14 (by kernel_rfl)
theorem known15_FitL : Known Try.prog 15 := Known.mk' Try.func15 (by kernel_rfl)
theorem law_Fit {w : World} {a a1 a2 : Option Addr} {c c1 c2 : Nat} {f : Nat → Option Addr × Nat} {xss : List (List Nat)} {ws gs : List Nat} {x : Nat} (hA : Cl w a (hd f xss)) (hR : Rws w f xss) (hW : Cl w a1 (fl ws)) (hG : Cl w a2 (fl gs)) (hX : Cans xss) (hXw : ∀ x ∈ ws, Can .f32 x) (hXg : ∀ x ∈ gs, Can .f32 x) (hm : xss.length ≤ 9223372036854775807) (hr1 : ∀ i, i < xss.length → (xss.getD i []).length ≤ 9223372036854775807) (hw1 : ws.length ≤ 9223372036854775807) (hg1 : gs.length ≤ 9223372036854775807) : Pure Try.prog 5 [.agg #[.slice a xss.length c, .slice a1 ws.length c1, .slice a2 gs.length c2], .float .f32 x] w (.bool true) := by
  refine Pure.enter Try.func5 rfl Try.ntmps5 (Nat.le_of_ble_eq_true rfl) ?_
  have hbu : bulk xss = xss.length + sumK xss xss.length := rfl
  have hS := can_ftD xss ws gs x
  have hSl := length_ftD xss ws gs x
  refine V.seq ?_
  refine V.region ?_
  refine VL.new1 (.inl rfl) rfl (by decide) (yn_box rfl rfl (.inr ⟨rfl, rfl⟩)) ?_
  intro b2
  refine VL.r (.inl rfl) rfl (by decide) (yr_assign (u := .bool false) rfl rfl) ?_
  refine VL.nil ?_
  refine VE.then_wp ?_
  refine V.seq ?_
  refine V.region ?_
  refine VL.r (.inl rfl) rfl (by decide) (yr_assign (u := .int .i64 1048576) rfl rfl) ?_
  refine VL.nil ?_
  refine VE.then_wp ?_
  refine V.seq ?_
  refine V.region ?_
  refine VL.q (.inl rfl) rfl (by decide) (yq_loadS rfl Try.underlying25 sz25_FitL rfl zz0 rfl rfl rfl) ?_
  refine VL.r (.inl rfl) rfl (by decide) (yr_move rfl rfl) ?_
  refine VL.q (.inl rfl) rfl (by decide) (yq_callf rfl known7_FitL (.cons rfl (.cons rfl .nil)) (fun w hw => (c_szDesign zz1 (by omega) (by omega) (by omega) (by assumption) (by omega) (by omega)))) ?_
  refine VL.r (.inl rfl) rfl (by decide) (yr_assign rfl rfl) ?_
  refine VL.nil ?_
  refine VE.then_wp ?_
  refine V.seq ?_
  refine V.seq ?_
  refine V.region ?_
  refine VL.r (.inl rfl) rfl (by decide) (yr_move rfl rfl) ?_
  refine VL.r (.inl rfl) rfl (by decide) (yr_icmp rfl (.inr (.inr (.inl rfl))) rfl rfl) ?_
  refine VL.nil ?_
  refine VE.then_wp ?_
  refine V.cond rfl (fun h1 => ?_) (fun h1 => ?_)
  · skip
    replace h1 := ic_lss h1
    refine V.seq ?_
    refine V.region ?_
    refine VL.r (.inl rfl) rfl (by decide) (yr_assign (u := .bool true) rfl rfl) ?_
    refine VL.nil ?_
    refine VE.then_wp ?_
    refine V.ret ?_
    refine VE.then_ret ?_
    refine ret1 rfl rfl (fun w1 hw => ?_)
    exact ⟨rfl, hw.below⟩
  · skip
    replace h1 := ic_lss' h1
    have hsz := szOf_fits h1
    refine V.skip ?_
    refine VE.then_wp ?_
    refine V.seq ?_
    refine V.region ?_
    refine VL.q (.inl rfl) rfl (by decide) (yq_loadS rfl Try.underlying25 sz25_FitL rfl zz0 rfl rfl rfl) ?_
    refine VL.new (.inl rfl) rfl (by decide) (yn_callf rfl known9_FitL (.cons rfl .nil) (fun w hw => (c_toDesign zz1 zz3 zz1 zz1 (by omega)))) ?_
    rintro ⟨⟨b23, f23⟩, ⟨a23, c23⟩, ⟨d23, e23⟩⟩
    refine VL.r (.inl rfl) rfl (by decide) (yr_move rfl rfl) ?_
    refine VL.new1 (.inl rfl) rfl (by decide) (yn_callf rfl known18_FitL (.cons rfl (.cons rfl .nil)) (fun w hw => (c_specFit zz1 zz3 zz1 zz1 (by omega)))) ?_
    rintro ⟨a25, c25⟩
    refine VL.r (.inl rfl) rfl (by decide) (yr_move rfl rfl) ?_
    refine VL.r (.inl rfl) rfl (by decide) (yr_extract rfl rfl rfl (by nofun)) ?_
    refine VL.r (.inl rfl) rfl (by decide) (yr_extract rfl rfl rfl (by nofun)) ?_
    refine VL.r (.inl rfl) rfl (by decide) (yr_assign rfl rfl) ?_
    refine VL.r (.inl rfl) rfl (by decide) (yr_assign rfl rfl) ?_
    refine VL.nil ?_
    refine VE.then_wp ?_
    refine V.seq ?_
    refine V.region ?_
    refine VL.q (.inl rfl) rfl (by decide) (yq_loadS rfl Try.underlying25 sz25_FitL rfl zz0 rfl rfl rfl) ?_
    refine VL.new (.inl rfl) rfl (by decide) (yn_callf rfl known9_FitL (.cons rfl .nil) (fun w hw => (c_toDesign zz1 zz3 zz1 zz1 (by omega)))) ?_
    rintro ⟨⟨b29, f29⟩, ⟨a29, c29⟩, ⟨d29, e29⟩⟩
    refine VL.new1 (.inl rfl) rfl (by decide) (yn_alloc rfl zero30_FitL rfl) ?_
    intro b8
    refine VL.s (.inl rfl) rfl (yc_store rfl sz30_FitL rfl rfl zz6 (.inr ⟨rfl, rfl⟩) rfl (by first | exact Nat.le_of_ble_eq_true rfl | simp) (by decide) rfl) ?_
    rintro ⟨⟩
    refine VL.nil ?_
    refine VE.then_wp ?_
    refine V.seq ?_
    refine V.region ?_
    refine VL.q (.inl rfl) rfl (by decide) (yq_loadS rfl Try.underlying30 sz30_FitL rfl zz0 rfl rfl rfl) ?_
    refine VL.r (.inl rfl) rfl (by decide) (yr_move rfl rfl) ?_
    refine VL.new1 (.inl rfl) rfl (by decide) (yn_callf rfl known19_FitL (.cons rfl (.cons rfl .nil)) (fun w hw => (c_implFit zz1 zz3 zz1 zz1 (by omega)))) ?_
    rintro ⟨a33, c33⟩
    refine VL.r (.inl rfl) rfl (by decide) (yr_move rfl rfl) ?_
    refine VL.r (.inl rfl) rfl (by decide) (yr_extract rfl rfl rfl (by nofun)) ?_
    refine VL.r (.inl rfl) rfl (by decide) (yr_extract rfl rfl rfl (by nofun)) ?_
    refine VL.r (.inl rfl) rfl (by decide) (yr_assign rfl rfl) ?_
    refine VL.r (.inl rfl) rfl (by decide) (yr_assign rfl rfl) ?_
    refine VL.nil ?_
    refine VE.then_wp ?_
    refine V.seq ?_
    refine V.seq ?_
    refine V.region ?_
    refine VL.r (.inl rfl) rfl (by decide) (yr_move rfl rfl) ?_
    refine VL.r (.inl rfl) rfl (by decide) (yr_move rfl rfl) ?_
    refine VL.q (.inl rfl) rfl (by decide) (yq_callf rfl known11_FitL (.cons rfl (.cons rfl .nil)) (fun w hw => c_eqF zz1 zz1 (by first | assumption | exact can_up _ | exact can_fop _ _ _ _ | exact can_of _ (by assumption)) (by first | assumption | exact can_up _ | exact can_fop _ _ _ _ | exact can_of _ (by assumption)) (by omega))) ?_
    refine VL.r (.inl rfl) rfl (by decide) (yr_not rfl rfl) ?_
    refine VL.r (.inl rfl) rfl (by decide) (yr_move rfl rfl) ?_
    refine VX.split 40 _ rfl (fun h2 => ?_) (fun h2 => ?_)
    · skip
      replace h2 := bnot_t h2
      first | (exfalso; omega) | (simp [bcmp] at h2; done)
    · skip
      replace h2 := bnot_f h2
      refine VL.r (.inr ⟨_, _, _, rfl, rfl, rfl⟩) rfl (by decide) (yr_move rfl rfl) ?_
      refine VL.r (.inr ⟨_, _, _, rfl, rfl, rfl⟩) rfl (by decide) (yr_move rfl rfl) ?_
      refine VL.r (.inr ⟨_, _, _, rfl, rfl, rfl⟩) rfl (by decide) (yr_bcmp rfl Try.underlying4 rfl rfl (.inr rfl)) ?_
      refine VL.r (.inl rfl) rfl (by decide) (yr_pick_f rfl rfl rfl) ?_
      refine VL.nil ?_
      refine VE.then_wp ?_
      refine V.cond rfl (fun h3 => ?_) (fun h3 => ?_)
      · skip
        first | (exfalso; omega) | (simp [bcmp] at h3; done)
      · skip
        refine V.skip ?_
        refine VE.then_wp ?_
        refine V.seq ?_
        refine V.seq ?_
        refine V.draw [(0, 0), (1, 0), (2, 1), (3, 0), (4, 0)] mixed_FitL (by kernel_rfl) (by intro j o hj; simp at hj) ?_
        refine SW.q rfl (.inl rfl) rfl (by decide) (yq_loadS rfl Try.underlying30 sz30_FitL rfl zz0 rfl rfl rfl) ?_
        refine SW.q rfl (.inl rfl) rfl (by decide) (yq_loadS rfl Try.underlying25 sz25_FitL rfl zz0 rfl rfl rfl) ?_
        refine SW.new rfl (.inl rfl) rfl (by decide) (yn_callf rfl known9_FitL (.cons rfl .nil) (fun w hw => (c_toDesign zz1 zz3 zz1 zz1 (by omega)))) ?_
        rintro ⟨⟨b47, f47⟩, ⟨a47, c47⟩, ⟨d47, e47⟩⟩
        refine SW.q rfl (.inl rfl) rfl (by decide) (yq_callf rfl known12_FitL (.cons rfl (.cons rfl .nil)) (fun w hw => (c_eqDesign zz1 zz3 zz1 zz1 zz1 zz3 zz1 zz1 (by assumption) (by assumption) (by assumption) (by assumption) (by assumption) (by assumption) (by omega)))) ?_
        refine SW.r rfl (.inl rfl) rfl (by decide) (yr_not rfl rfl) ?_
        refine SW.done ?_
        refine VE.then_wp ?_
        refine V.cond rfl (fun h4 => ?_) (fun h4 => ?_)
        · skip
          replace h4 := bnot_t h4
          first | (exfalso; omega) | (simp [bcmp] at h4; done)
        · skip
          replace h4 := bnot_f h4
          refine V.skip ?_
          refine VE.then_wp ?_
          refine V.seq ?_
          refine V.region ?_
          refine VL.r (.inl rfl) rfl (by decide) (yr_assign (u := .int .i64 1) rfl rfl) ?_
          refine VL.nil ?_
          refine VE.then_wp ?_
          refine V.seq ?_
          refine V.region ?_
          refine VL.q (.inl rfl) rfl (by decide) (yq_loadS rfl Try.underlying30 sz30_FitL rfl zz0 rfl rfl rfl) ?_
          refine VL.r (.inl rfl) rfl (by decide) (yr_move rfl rfl) ?_
          refine VL.c (.inl rfl) rfl (by decide) (yc_callf rfl known13_FitL (.cons rfl (.cons rfl .nil)) (by apply Pick.four; all_goals (repeat (first | exact Rem.here | exact Rem.all | exact Rem.hereS | apply Rem.there | apply Rem.thereS))) (c_markDesign (by omega) (by omega) (by omega))) ?_
          rintro ⟨⟩
          refine VL.r (.inl rfl) rfl (by decide) (yr_assign rfl rfl) ?_
          refine VL.nil ?_
          refine VE.then_wp ?_
          refine V.seq ?_
          refine V.seq ?_
          refine V.region ?_
          refine VL.r (.inl rfl) rfl (by decide) (yr_move rfl rfl) ?_
          refine VL.r (.inl rfl) rfl (by decide) (yr_icmp rfl (.inr (.inr (.inl rfl))) rfl rfl) ?_
          refine VL.r (.inl rfl) rfl (by decide) (yr_move rfl rfl) ?_
          refine VX.split 55 _ rfl (fun h5 => ?_) (fun h5 => ?_)
          · skip
            replace h5 := ic_lss h5
            first | (exfalso; omega) | (simp [bcmp] at h5; done)
          · skip
            replace h5 := ic_lss' h5
            refine VL.r (.inr ⟨_, _, _, rfl, rfl, rfl⟩) rfl (by decide) (yr_move rfl rfl) ?_
            refine VL.r (.inr ⟨_, _, _, rfl, rfl, rfl⟩) rfl (by decide) (yr_move rfl rfl) ?_
            refine VL.q (.inr ⟨_, _, _, rfl, rfl, rfl⟩) rfl (by decide) (yq_callf rfl known11_FitL (.cons rfl (.cons rfl .nil)) (fun w hw => c_eqF zz1 zz1 (by first | assumption | exact can_up _ | exact can_fop _ _ _ _ | exact can_of _ (by assumption)) (by first | assumption | exact can_up _ | exact can_fop _ _ _ _ | exact can_of _ (by assumption)) (by omega))) ?_
            refine VL.r (.inr ⟨_, _, _, rfl, rfl, rfl⟩) rfl (by decide) (yr_not rfl rfl) ?_
            refine VL.r (.inl rfl) rfl (by decide) (yr_pick_f rfl rfl rfl) ?_
            refine VL.r (.inl rfl) rfl (by decide) (yr_move rfl rfl) ?_
            refine VX.split 61 _ rfl (fun h6 => ?_) (fun h6 => ?_)
            · skip
              replace h6 := bnot_t h6
              first | (exfalso; omega) | (simp [bcmp] at h6; done)
            · skip
              replace h6 := bnot_f h6
              refine VL.r (.inr ⟨_, _, _, rfl, rfl, rfl⟩) rfl (by decide) (yr_move rfl rfl) ?_
              refine VL.r (.inr ⟨_, _, _, rfl, rfl, rfl⟩) rfl (by decide) (yr_move rfl rfl) ?_
              refine VL.r (.inr ⟨_, _, _, rfl, rfl, rfl⟩) rfl (by decide) (yr_bcmp rfl Try.underlying4 rfl rfl (.inr rfl)) ?_
              refine VL.r (.inl rfl) rfl (by decide) (yr_pick_f rfl rfl rfl) ?_
              refine VL.nil ?_
              refine VE.then_wp ?_
              refine V.cond rfl (fun h7 => ?_) (fun h7 => ?_)
              · skip
                first | (exfalso; omega) | (simp [bcmp] at h7; done)
              · skip
                refine V.skip ?_
                refine VE.then_wp ?_
                refine V.seq ?_
                refine V.region ?_
                refine VL.r (.inl rfl) rfl (by decide) (yr_assign (u := .int .i64 1) rfl rfl) ?_
                refine VL.nil ?_
                refine VE.then_wp ?_
                refine V.seq ?_
                refine V.region ?_
                refine VL.r (.inl rfl) rfl (by decide) (yr_move rfl rfl) ?_
                refine VL.r (.inl rfl) rfl (by decide) (yr_move rfl rfl) ?_
                refine VL.c (.inl rfl) rfl (by decide) (yc_callf rfl known14_FitL (.cons rfl (.cons rfl .nil)) (by apply Pick.one; repeat (first | exact Rem.here | apply Rem.there | apply Rem.thereS)) (c_markF (by omega) (by omega) (by omega))) ?_
                rintro ⟨⟩
                refine VL.r (.inl rfl) rfl (by decide) (yr_assign rfl rfl) ?_
                refine VL.nil ?_
                refine VE.then_wp ?_
                refine V.seq ?_
                refine V.region ?_
                refine VL.r (.inl rfl) rfl (by decide) (yr_assign (u := .int .i64 1) rfl rfl) ?_
                refine VL.nil ?_
                refine VE.then_wp ?_
                refine V.seq ?_
                refine V.region ?_
                refine VL.r (.inl rfl) rfl (by decide) (yr_move rfl rfl) ?_
                refine VL.r (.inl rfl) rfl (by decide) (yr_move rfl rfl) ?_
                refine VL.q (.inl rfl) rfl (by decide) (yq_callf rfl known15_FitL (.cons rfl (.cons rfl .nil)) (fun w hw => c_heldF zz1 (by omega) (by omega) (by omega))) ?_
                refine VL.r (.inl rfl) rfl (by decide) (yr_assign rfl rfl) ?_
                refine VL.nil ?_
                refine VE.then_wp ?_
                refine V.seq ?_
                refine V.seq ?_
                refine V.region ?_
                refine VL.r (.inl rfl) rfl (by decide) (yr_move rfl rfl) ?_
                refine VL.r (.inl rfl) rfl (by decide) (yr_icmp rfl (.inr (.inr (.inl rfl))) rfl rfl) ?_
                refine VL.nil ?_
                refine VE.then_wp ?_
                refine V.cond rfl (fun h8 => ?_) (fun h8 => ?_)
                · skip
                  replace h8 := ic_lss h8
                  first | (exfalso; omega) | (simp [bcmp] at h8; done)
                · skip
                  replace h8 := ic_lss' h8
                  refine V.skip ?_
                  refine VE.then_wp ?_
                  refine V.seq ?_
                  refine V.seq ?_
                  refine V.region ?_
                  refine VL.r (.inl rfl) rfl (by decide) (yr_move rfl rfl) ?_
                  refine VL.r (.inl rfl) rfl (by decide) (yr_move rfl rfl) ?_
                  refine VL.r (.inl rfl) rfl (by decide) (yr_icmp rfl (.inr (.inl rfl)) rfl rfl) ?_
                  refine VL.nil ?_
                  refine VE.then_wp ?_
                  refine V.cond rfl (fun h9 => ?_) (fun h9 => ?_)
                  · skip
                    replace h9 := ic_neq h9
                    first | (exfalso; omega) | (simp [bcmp] at h9; done)
                  · skip
                    replace h9 := ic_neq' h9
                    refine V.skip ?_
                    refine VE.then_wp ?_
                    refine V.seq ?_
                    refine V.region ?_
                    refine VL.q (.inl rfl) rfl (by decide) (yq_loadS rfl Try.underlying25 sz25_FitL rfl zz0 rfl rfl rfl) ?_
                    refine VL.new (.inl rfl) rfl (by decide) (yn_callf rfl known9_FitL (.cons rfl .nil) (fun w hw => (c_toDesign zz1 zz3 zz1 zz1 (by omega)))) ?_
                    rintro ⟨⟨b79, f79⟩, ⟨a79, c79⟩, ⟨d79, e79⟩⟩
                    refine VL.r (.inl rfl) rfl (by decide) (yr_move rfl rfl) ?_
                    refine VL.new1 (.inl rfl) rfl (by decide) (yn_callf rfl known19_FitL (.cons rfl (.cons rfl .nil)) (fun w hw => (c_implFit zz1 zz3 zz1 zz1 (by omega)))) ?_
                    rintro ⟨a81, c81⟩
                    refine VL.r (.inl rfl) rfl (by decide) (yr_move rfl rfl) ?_
                    refine VL.r (.inl rfl) rfl (by decide) (yr_extract rfl rfl rfl (by nofun)) ?_
                    refine VL.r (.inl rfl) rfl (by decide) (yr_extract rfl rfl rfl (by nofun)) ?_
                    refine VL.r (.inl rfl) rfl (by decide) (yr_assign rfl rfl) ?_
                    refine VL.r (.inl rfl) rfl (by decide) (yr_assign rfl rfl) ?_
                    refine VL.nil ?_
                    refine VE.then_wp ?_
                    refine V.seq ?_
                    refine V.seq ?_
                    refine V.region ?_
                    refine VL.r (.inl rfl) rfl (by decide) (yr_move rfl rfl) ?_
                    refine VL.r (.inl rfl) rfl (by decide) (yr_move rfl rfl) ?_
                    refine VL.q (.inl rfl) rfl (by decide) (yq_callf rfl known11_FitL (.cons rfl (.cons rfl .nil)) (fun w hw => c_eqF zz1 zz1 (by first | assumption | exact can_up _ | exact can_fop _ _ _ _ | exact can_of _ (by assumption)) (by first | assumption | exact can_up _ | exact can_fop _ _ _ _ | exact can_of _ (by assumption)) (by omega))) ?_
                    refine VL.r (.inl rfl) rfl (by decide) (yr_not rfl rfl) ?_
                    refine VL.r (.inl rfl) rfl (by decide) (yr_move rfl rfl) ?_
                    refine VX.split 88 _ rfl (fun h10 => ?_) (fun h10 => ?_)
                    · skip
                      replace h10 := bnot_t h10
                      first | (exfalso; omega) | (simp [bcmp] at h10; done)
                    · skip
                      replace h10 := bnot_f h10
                      refine VL.r (.inr ⟨_, _, _, rfl, rfl, rfl⟩) rfl (by decide) (yr_move rfl rfl) ?_
                      refine VL.r (.inr ⟨_, _, _, rfl, rfl, rfl⟩) rfl (by decide) (yr_move rfl rfl) ?_
                      refine VL.r (.inr ⟨_, _, _, rfl, rfl, rfl⟩) rfl (by decide) (yr_bcmp rfl Try.underlying4 rfl rfl (.inr rfl)) ?_
                      refine VL.r (.inl rfl) rfl (by decide) (yr_pick_f rfl rfl rfl) ?_
                      refine VL.nil ?_
                      refine VE.then_wp ?_
                      refine V.cond rfl (fun h11 => ?_) (fun h11 => ?_)
                      · skip
                        first | (exfalso; omega) | (simp [bcmp] at h11; done)
                      · skip
                        refine V.skip ?_
                        refine VE.then_wp ?_
                        refine V.seq ?_
                        refine V.region ?_
                        refine VL.r (.inl rfl) rfl (by decide) (yr_assign (u := .int .i64 1) rfl rfl) ?_
                        refine VL.nil ?_
                        refine VE.then_wp ?_
                        refine V.seq ?_
                        refine V.region ?_
                        refine VL.r (.inl rfl) rfl (by decide) (yr_move rfl rfl) ?_
                        refine VL.r (.inl rfl) rfl (by decide) (yr_move rfl rfl) ?_
                        refine VL.q (.inl rfl) rfl (by decide) (yq_callf rfl known15_FitL (.cons rfl (.cons rfl .nil)) (fun w hw => c_heldF zz1 (by omega) (by omega) (by omega))) ?_
                        refine VL.r (.inl rfl) rfl (by decide) (yr_assign rfl rfl) ?_
                        refine VL.nil ?_
                        refine VE.then_wp ?_
                        refine V.seq ?_
                        refine V.seq ?_
                        refine V.region ?_
                        refine VL.r (.inl rfl) rfl (by decide) (yr_move rfl rfl) ?_
                        refine VL.r (.inl rfl) rfl (by decide) (yr_icmp rfl (.inr (.inr (.inl rfl))) rfl rfl) ?_
                        refine VL.nil ?_
                        refine VE.then_wp ?_
                        refine V.cond rfl (fun h12 => ?_) (fun h12 => ?_)
                        · skip
                          replace h12 := ic_lss h12
                          first | (exfalso; omega) | (simp [bcmp] at h12; done)
                        · skip
                          replace h12 := ic_lss' h12
                          refine V.skip ?_
                          refine VE.then_wp ?_
                          refine V.seq ?_
                          refine V.seq ?_
                          refine V.region ?_
                          refine VL.r (.inl rfl) rfl (by decide) (yr_move rfl rfl) ?_
                          refine VL.r (.inl rfl) rfl (by decide) (yr_move rfl rfl) ?_
                          refine VL.r (.inl rfl) rfl (by decide) (yr_icmp rfl (.inr (.inl rfl)) rfl rfl) ?_
                          refine VL.nil ?_
                          refine VE.then_wp ?_
                          refine V.cond rfl (fun h13 => ?_) (fun h13 => ?_)
                          · skip
                            replace h13 := ic_neq h13
                            first | (exfalso; omega) | (simp [bcmp] at h13; done)
                          · skip
                            replace h13 := ic_neq' h13
                            refine V.skip ?_
                            refine VE.then_wp ?_
                            refine V.seq ?_
                            refine V.region ?_
                            refine VL.r (.inl rfl) rfl (by decide) (yr_assign (u := .bool true) rfl rfl) ?_
                            refine VL.nil ?_
                            refine VE.then_wp ?_
                            refine V.ret ?_
                            refine ret1 rfl rfl (fun w1 hw => ?_)
                            exact ⟨rfl, hw.below⟩
end Go.Proofs.Ytgeflnjjppgooaa.Q

namespace Go.Proofs.Ytgeflnjjppgooaa.Y
open Go Go.Conc Go.RowKit Go.Proofs.Ytgeflnjjppgooaa Go.Proofs.Ytgeflnjjppgooaa.Q
open Go.ConcR (KK wgBlock WgAt stA smA rd wr mk Payload DC0)
open Go.ConcN (WgLive PayAt Has RW DWs AtR0 WSit WD upd upd_same upd_ne)
/-- All views: the starter's has number 0, worker i's number i + 1. -/
structure VI (Bad : Nat → Prop) (B0 j : Nat) (V : Nat → World) (w : World) : Prop where
  view : ∀ x, x ≤ j → View (V x) w
  ex : ∀ x y, x ≤ j → y ≤ j → x ≠ y → ∀ b, Liv (V x) b → ¬ Rdb (V y) b
  bad : ∀ x, x ≤ j → ∀ b, Bad b → ¬ Rdb (V x) b
  low : ∀ x, x ≤ j → ∀ b, b < B0 → ¬ Liv (V x) b
section
variable {Bad : Nat → Prop} {B0 j : Nat} {V : Nat → World} {w w' : World}
theorem VI.step (h : VI Bad B0 j V w) {x : Nat} (hx : x ≤ j) {v' : World} (hc : Chg (V x) v' w w') (hb : ∀ b, Bad b → b < w.heap.size) (h0 : B0 ≤ w.heap.size) :
    VI Bad B0 j (fun y => if y = x then v' else up (V y) w') w' := by
  have hv := h.view x hx
  have hs : (V x).heap.size = w.heap.size := hv.size
  have pick : ∀ (Q : World → Prop) y, Q v' → Q (up (V y) w') → Q (if y = x then v' else up (V y) w') := fun Q y h1 h2 => by split <;> assumption
  refine ⟨fun y hy => ?_, fun y z hy hz hne b hl hr => ?_, fun y hy b hbb hr => ?_, fun y hy b hlt hl => ?_⟩
  · by_cases e : y = x
    · simp only [if_pos e]; exact hc.view
    · simp only [if_neg e]
      exact view_other hc hv (h.view y hy) (h.ex x y hx hy (Ne.symm e))
  · by_cases e : y = x
    · subst e
      simp only at hl
      simp only [if_neg (Ne.symm hne), rdb_up] at hr
      have hlt := rdb_lt hr
      have hz' := (h.view z hz).size
      exact h.ex y z hy hz hne b (hc.liv (by omega) hl) hr
    · simp only [if_neg e, liv_up] at hl
      have hlt := liv_lt hl
      have hy' := (h.view y hy).size
      by_cases e2 : z = x
      · subst e2
        simp only at hr
        exact h.ex y z hy hz hne b hl (hc.rdb (by omega) hr)
      · simp only [if_neg e2, rdb_up] at hr
        exact h.ex y z hy hz hne b hl hr
  · by_cases e : y = x
    · subst e
      simp only at hr
      exact h.bad y hy b hbb (hc.rdb (by have := hb b hbb; omega) hr)
    · simp only [if_neg e, rdb_up] at hr
      exact h.bad y hy b hbb hr
  · by_cases e : y = x
    · subst e
      simp only at hl
      exact h.low y hy b hlt (hc.liv (by omega) hl)
    · simp only [if_neg e, liv_up] at hl
      exact h.low y hy b hlt hl
/-- The world turns where nobody looks. -/
theorem VI.aside (h : VI Bad B0 j V w) (hv : ∀ x, x ≤ j → View (up (V x) w') w') : VI Bad B0 j (fun y => up (V y) w') w' :=
  ⟨hv, fun y z hy hz hne b hl hr => h.ex y z hy hz hne b (liv_up.1 hl) (rdb_up.1 hr), fun y hy b hbb hr => h.bad y hy b hbb (rdb_up.1 hr), fun y hy b hlt hl => h.low y hy b hlt (liv_up.1 hl)⟩
/-- .. in one block. -/
theorem VI.block (h : VI Bad B0 j V w) {b : Nat} {d d' : Array Value} {ty : TypeId} {z z' : Nat × Nat} (hw : w.heap[b]? = some (.cells d ty z)) (hd : d ≠ #[]) (hw' : w'.heap[b]? = some (.cells d' ty z')) (oth : ∀ k, k ≠ b → w'.heap[k]? = w.heap[k]?)
    (hs : w'.heap.size = w.heap.size) (h1 : w'.tape = w.tape) (h2 : w'.os = w.os) (h3 : w'.output = w.output) (hn : ∀ x, x ≤ j → ¬ Rdb (V x) b) : VI Bad B0 j (fun y => up (V y) w') w' :=
  h.aside fun x hx => view_block (h.view x hx) hw hd hw' oth hs h1 h2 h3 (hn x hx)
theorem VI.at (h : VI Bad B0 j V w) (d : Nat) : VI Bad B0 j (fun y => up (V y) (w.at d)) (w.at d) := h.aside fun x hx => view_same (h.view x hx) rfl rfl rfl rfl
end
structure WI (D : Sc) (wb : World) (j : Nat) (σ : Nat → List (Addr × Value)) (st sm : Int) (w : World) : Prop where
  wg : WgAt D.ty D.Wg w st sm
  arrs : ∀ b d ty z, D.arr b = true → D.vb.heap[b]? = some (.cells d ty z) → ∃ d', w.heap[b]? = some (.cells d' ty z) ∧ d'.size = d.size
  sig : ∀ i, i < j → ∀ p ∈ σ i, D.own i p.1 ∧ w.cell? p.1 = some p.2
  old : ∀ b, b < D.vb.heap.size → b ≠ D.Wg → D.arr b = false → w.heap[b]? = wb.heap[b]?
  tape : w.tape = wb.tape
  os : w.os = wb.os
  output : w.output = wb.output
  size : D.vb.heap.size ≤ w.heap.size
  wgB : D.Wg < D.vb.heap.size
  pay : w.heap[D.c]? = some (.cells #[D.x] D.ety)
section
variable {D : Sc} {wb : World} {j : Nat} {σ : Nat → List (Addr × Value)} {st sm st' sm' : Int} {w w' : World}
theorem arr_lt (h : PhOk D) {b : Nat} (hb : D.arr b = true) : b < D.vb.heap.size := by
  obtain ⟨_, c, ty, h1⟩ := h.arr b hb
  exact (Array.getElem?_eq_some_iff.1 h1).1
theorem cell_same {w w' : World} {a : Addr} (h : w'.heap[a.block]? = w.heap[a.block]?) : w'.cell? a = w.cell? a := by simp only [World.cell?, h]
/-- All that is protected stands. -/
theorem WI.same (h : WI D wb j σ st sm w) (O : PhOk D) (hg : WgAt D.ty D.Wg w' st' sm') (ha : ∀ b, D.arr b = true → w'.heap[b]? = w.heap[b]?)
    (ho : ∀ b, b < D.vb.heap.size → b ≠ D.Wg → D.arr b = false → w'.heap[b]? = w.heap[b]?) (hs : w.heap.size ≤ w'.heap.size) (h1 : w'.tape = w.tape) (h2 : w'.os = w.os) (h3 : w'.output = w.output) : WI D wb j σ st' sm' w' := by
  refine ⟨hg, fun b d ty z hb hd => ?_, fun i hi p hp => ?_, fun b hb h4 h5 => (ho b hb h4 h5).trans (h.old b hb h4 h5), h1.trans h.tape, h2.trans h.os, h3.trans h.output, Nat.le_trans h.size hs, h.wgB, ?_⟩
  · rw [ha b hb]; exact h.arrs b d ty z hb hd
  · obtain ⟨e1, e2⟩ := h.sig i hi p hp
    exact ⟨e1, (cell_same (ha _ (O.own i _ e1).1)).trans e2⟩
  · exact (ho D.c (Array.getElem?_eq_some_iff.1 O.c.2.2).1 O.c.1 O.c.2.1).trans h.pay
theorem WI.has (h : WI D wb j σ st sm w) : Has D.c 0 D.x w := by simp [Has, World.cell?, h.pay]
theorem WI.live (h : WI D wb j σ st sm w) : WgLive D.ty D.Wg w := ⟨st, sm, h.wg⟩
/-- What a worker on its way out suffers. -/
theorem WI.rw (h : WI D wb j σ st sm w) {σ' : Nat → List (Addr × Value)} (h' : WI D wb j σ' st' sm' w') : @RW D.pay D.ty D.Wg D.c 1 0 0 w w' :=
  letI := D.pay
  ⟨fun b hb => absurd hb (Nat.not_lt_zero b), fun _ => h'.live, fun ⟨cs, e1, e2⟩ => ⟨cs, (h'.pay.trans h.pay.symm).trans e1, e2⟩, cell_same (h'.pay.trans h.pay.symm)⟩
theorem WI.rl (h' : WI D wb j σ st' sm' w') : RL D.ty D.Wg w w' := fun _ => h'.live
/-- A step of goroutine's x in its own view. -/
theorem WI.step {Bad : Nat → Prop} {V : Nat → World} (h : WI D wb j σ st sm w) (O : PhOk D) (hV : VI Bad D.vb.heap.size j V w) (hbad : ∀ b, b = D.Wg ∨ D.arr b = true → Bad b) {y : Nat} (hy : y ≤ j) {v' : World} (hc : Chg (V y) v' w w') :
    WI D wb j σ st sm w' := by
  have hsz := (hV.view y hy).size
  have keep : ∀ b, b < w.heap.size → ¬ Liv (V y) b → w'.heap[b]? = w.heap[b]? := fun b hb hn => (hc.keep b (by omega) hn).2
  have r0 := (hV.view y hy).rest
  have r1 := hc.view.rest
  have hs := h.size
  refine h.same O ?_ (fun b hb => ?_) (fun b hb h1 h2 => keep b (by omega) (hV.low y hy b hb)) ?_ ?_ ?_ ?_
  · exact h.wg.of_block (keep _ (by have := h.wgB; omega) fun hl => hV.bad y hy _ (hbad _ (.inl rfl)) hl.rdb)
  · exact keep b (by have := arr_lt O hb; omega) fun hl => hV.bad y hy _ (hbad _ (.inr hb)) hl.rdb
  · rw [← hc.view.size, ← hsz]; exact hc.grow
  · rw [r1, r0]; exact hc.tape
  · rw [r1, r0]; exact hc.os
  · rw [r1, r0]; exact hc.output
end
end Go.Proofs.Ytgeflnjjppgooaa.Y
