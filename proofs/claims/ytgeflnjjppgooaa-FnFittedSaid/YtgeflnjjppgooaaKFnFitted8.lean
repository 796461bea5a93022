/- Own texts of this claim, merged: QWShared, Chol, QWChol, Fit, QWFit, Err, ErrB, ErrC, Ne, Ng, Tk, Qv, Qw, Qx, Sv. -/
import Derived.KernelRfl
import Derived.Test.YtgeflnjjppgooaaKFnFitted7
namespace Go.Proofs.Ytgeflnjjppgooaa.Q
open Go.RowKit
set_option linter.unusedVariables false
set_option linter.unusedSimpArgs false
set_option maxRecDepth 20000
set_option maxHeartbeats 800000
attribute [local irreducible] wqList Wq
theorem sz30_Shared : (Try.prog.info? 30).map (·.size) = some 3 := by kernel_rfl
theorem known27_Shared : Known Try.prog 27 := Known.mk' Try.func27 (by kernel_rfl)
theorem known42_Shared : Known Try.prog 42 := Known.mk' Try.func42 (by kernel_rfl)
theorem fb2_Shared : flatB Try.prog 2 = true := by kernel_rfl
theorem known43_Shared : Known Try.prog 43 := Known.mk' Try.func43 (by kernel_rfl)
theorem mixed_Shared : Try.prog.follows .mixedOrders = true := by kernel_rfl
theorem known44_Shared : Known Try.prog 44 := Known.mk' Try.func44 (by kernel_rfl)
theorem elt23_Shared : Elt Try.prog 23 [Value.slice none 0 0] 24 := Elt.mk' (by kernel_rfl) (by decide)
theorem zero22_Shared : (Try.prog.info? 22).bind (·.zero) = some (Value.slice none 0 0) := by kernel_rfl
theorem sz22_Shared : (Try.prog.info? 22).map (·.size) = some 1 := by kernel_rfl
theorem lay76_Shared : Lay Try.prog 76 [Value.int .u64 0, Value.int .u32 0] [(0, 0), (0, 1), (1, 1)] := Lay.mk' (by kernel_rfl) (by kernel_rfl)
theorem zero76_Shared : (Try.prog.info? 76).bind (·.zero) = some (Value.agg #[Value.int .u64 0, Value.int .u32 0]) := by kernel_rfl
theorem sz76_Shared : (Try.prog.info? 76).map (·.size) = some 2 := by kernel_rfl
theorem fb22_Shared : flatB Try.prog 22 = true := by kernel_rfl
theorem sz23_Shared : (Try.prog.info? 23).map (·.size) = some 1 := by kernel_rfl
theorem fb23_Shared : flatB Try.prog 23 = true := by kernel_rfl
theorem elt26_Shared : Elt Try.prog 26 [Value.float .f32 0] 4 := Elt.mk' (by kernel_rfl) (by decide)
theorem known49_Shared : Known Try.prog 49 := Known.mk' Try.func49 (by kernel_rfl)
theorem sz26_Shared : (Try.prog.info? 26).map (·.size) = some 1 := by kernel_rfl
theorem fb26_Shared : flatB Try.prog 26 = true := by kernel_rfl
theorem known17_Shared : Known Try.prog 17 := Known.mk' Try.func17 (by kernel_rfl)
theorem c_implShared {w : World} {a a1 a2 : Option Addr} {c c1 c2 : Nat} {f : Nat → Option Addr × Nat} {xss : List (List Nat)} {ws gs : List Nat} {x : Nat} {n : Int} (hA : Cl w a (hd f xss)) (hR : Rws w f xss) (hW : Cl w a1 (fl ws)) (hG : Cl w a2 (fl gs)) (hsz : bulk xss + ws.length + gs.length ≤ 1050000) : New Try.prog 17 [.agg #[.slice a xss.length c, .slice a1 ws.length c1, .slice a2 gs.length c2], .float .f32 x, .int .i64 n] w (fun p : (Option Addr × Nat) × (Option Addr × Nat) => .tuple #[.slice p.1.1 (shAD xss ws gs x n).length p.1.2, .slice p.2.1 (shBD xss ws gs x n).length p.2.2, .bool (shOk xss ws gs x n)]) (fun p => [⟨p.2.1, fl (shBD xss ws gs x n), p.2.2 * 1, 26⟩, ⟨p.1.1, fl (shAD xss ws gs x n), p.1.2 * 1, 26⟩]) := by
  refine New.enter Try.func17 rfl Try.ntmps17 (Nat.le_of_ble_eq_true rfl) ?_
  have hr : ∀ i, i < xss.length → (xss.getD i []).length ≤ 1050000 := fun i hi => by have := bulk_row hi; omega
  have hxl : xss.length ≤ bulk xss := by unfold bulk; omega
  have hbl := blocksN_le xss.length
  refine V.seq (V.region ?_)
  refine VL.new1 (.inl rfl) rfl (by decide) (yn_box rfl rfl (.inr ⟨rfl, rfl⟩)) ?_
  intro b3
  refine VL.new1 (.inl rfl) rfl (by decide) (yn_box rfl rfl (.inl ⟨rfl, rfl⟩)) ?_
  intro b5
  refine vr (yr_assign (u := .slice none 0 0) rfl rfl) ?_
  refine vr (yr_assign (u := .slice none 0 0) rfl rfl) ?_
  refine vr (yr_assign (u := .bool false) rfl rfl) ?_
  refine VL.nil (VE.then_wp (V.seq (V.seq (V.region ?_))))
  refine vq (yq_loadS rfl Try.underlying30 sz30_Shared rfl zz0 rfl rfl rfl) ?_
  refine vq (yq_callf rfl known27_Shared (.cons rfl .nil) (fun w hw => (c_implValid zz1 zz7 zz1 zz1 (by omega)))) ?_
  refine vr (yr_not rfl rfl) ?_
  refine vr (yr_move rfl rfl) ?_
  refine VX.split 21 _ rfl (fun h1 => ?_) (fun h1 => ?_)
  · skip
    replace h1 := bnot_t h1
    refine vn ?_
    refine vn ?_
    refine vn ?_
    refine vr (yr_pick_t (u := .bool true) rfl rfl rfl) ?_
    refine vr (yr_move rfl rfl) ?_
    refine vn ?_
    refine vn ?_
    refine vn ?_
    refine vr (yr_pick_t (u := .bool true) rfl rfl rfl) ?_
    refine vr (yr_move rfl rfl) ?_
    refine vn ?_
    refine vn ?_
    refine vn ?_
    refine vr (yr_pick_t (u := .bool true) rfl rfl rfl) ?_
    refine VL.nil (VE.then_wp ?_)
    refine V.condT rfl ?_
    refine V.seq (V.region ?_)
    refine vr (yr_assign (u := .slice none 0 0) rfl rfl) ?_
    refine vr (yr_assign (u := .slice none 0 0) rfl rfl) ?_
    refine vr (yr_assign (u := .bool false) rfl rfl) ?_
    refine VL.nil (VE.then_wp (V.ret (VE.then_ret ?_)))
    refine ret3 rfl rfl rfl rfl (by nofun) (by nofun) (by nofun) (fun w1 hw => ?_)
    first
      | (obtain rfl : j = (xss.getD 0 []).length := by omega
         exact ⟨((some ⟨b59, 0, none⟩, (xss.getD 0 []).length * (xss.getD 0 []).length), (some ⟨b61, 0, none⟩, (xss.getD 0 []).length)), by rw [shAD_yes hs, shBD_yes hs, hs, normA_length, normB_length] <;> rfl, by rw [shAD_yes hs, shBD_yes hs]; exact outs_from hbv (hw.outs (List.Sublist.refl _))⟩)
      | (have hs : shOk xss ws gs x n = false := by first | (simp only [shOk, *, Bool.false_and, Bool.and_false, Bool.and_true]; done) | (simp only [shOk, normOk, least, *, Bool.false_and, Bool.and_false, Bool.and_true]; done)
         exact ⟨((none, 0), (none, 0)), by rw [shAD_no hs, shBD_no hs, hs]; rfl, hw.below, by rw [shAD_no hs, shBD_no hs]; simp [fl, Ent.at], by simp [Ent.apart]⟩)
  replace h1 := bnot_f h1
  refine VL.r (.inr ⟨_, _, _, rfl, rfl, rfl⟩) rfl (by decide) (yr_move rfl rfl) ?_
  refine VL.q (.inr ⟨_, _, _, rfl, rfl, rfl⟩) rfl (by decide) (yq_callf rfl known42_Shared (.cons rfl .nil) (fun w hw => c_IsFinite _)) ?_
  refine VL.r (.inr ⟨_, _, _, rfl, rfl, rfl⟩) rfl (by decide) (yr_not rfl rfl) ?_
  refine vr (yr_pick_f rfl rfl rfl) ?_
  refine vr (yr_move rfl rfl) ?_
  refine VX.split 26 _ rfl (fun h3 => ?_) (fun h3 => ?_)
  · skip
    replace h3 := bnot_t h3
    refine vn ?_
    refine vn ?_
    refine vn ?_
    refine vr (yr_pick_t (u := .bool true) rfl rfl rfl) ?_
    refine vr (yr_move rfl rfl) ?_
    refine vn ?_
    refine vn ?_
    refine vn ?_
    refine vr (yr_pick_t (u := .bool true) rfl rfl rfl) ?_
    refine VL.nil (VE.then_wp ?_)
    refine V.condT rfl ?_
    refine V.seq (V.region ?_)
    refine vr (yr_assign (u := .slice none 0 0) rfl rfl) ?_
    refine vr (yr_assign (u := .slice none 0 0) rfl rfl) ?_
    refine vr (yr_assign (u := .bool false) rfl rfl) ?_
    refine VL.nil (VE.then_wp (V.ret (VE.then_ret ?_)))
    refine ret3 rfl rfl rfl rfl (by nofun) (by nofun) (by nofun) (fun w1 hw => ?_)
    first
      | (obtain rfl : j = (xss.getD 0 []).length := by omega
         exact ⟨((some ⟨b59, 0, none⟩, (xss.getD 0 []).length * (xss.getD 0 []).length), (some ⟨b61, 0, none⟩, (xss.getD 0 []).length)), by rw [shAD_yes hs, shBD_yes hs, hs, normA_length, normB_length] <;> rfl, by rw [shAD_yes hs, shBD_yes hs]; exact outs_from hbv (hw.outs (List.Sublist.refl _))⟩)
      | (have hs : shOk xss ws gs x n = false := by first | (simp only [shOk, *, Bool.false_and, Bool.and_false, Bool.and_true]; done) | (simp only [shOk, normOk, least, *, Bool.false_and, Bool.and_false, Bool.and_true]; done)
         exact ⟨((none, 0), (none, 0)), by rw [shAD_no hs, shBD_no hs, hs]; rfl, hw.below, by rw [shAD_no hs, shBD_no hs]; simp [fl, Ent.at], by simp [Ent.apart]⟩)
  replace h3 := bnot_f h3
  refine VL.r (.inr ⟨_, _, _, rfl, rfl, rfl⟩) rfl (by decide) (yr_move rfl rfl) ?_
  refine VL.r (.inr ⟨_, _, _, rfl, rfl, rfl⟩) rfl (by decide) (yr_fcmp (b := 0) rfl (.inr (.inr (.inr (.inr (.inr rfl))))) rfl rfl) ?_
  refine VL.r (.inr ⟨_, _, _, rfl, rfl, rfl⟩) rfl (by decide) (yr_not rfl rfl) ?_
  refine vr (yr_pick_f rfl rfl rfl) ?_
  refine vr (yr_move rfl rfl) ?_
  refine VX.split 31 _ rfl (fun h5 => ?_) (fun h5 => ?_)
  · skip
    replace h5 := bnot_t h5
    refine vn ?_
    refine vn ?_
    refine vn ?_
    refine vr (yr_pick_t (u := .bool true) rfl rfl rfl) ?_
    refine VL.nil (VE.then_wp ?_)
    refine V.condT rfl ?_
    refine V.seq (V.region ?_)
    refine vr (yr_assign (u := .slice none 0 0) rfl rfl) ?_
    refine vr (yr_assign (u := .slice none 0 0) rfl rfl) ?_
    refine vr (yr_assign (u := .bool false) rfl rfl) ?_
    refine VL.nil (VE.then_wp (V.ret (VE.then_ret ?_)))
    refine ret3 rfl rfl rfl rfl (by nofun) (by nofun) (by nofun) (fun w1 hw => ?_)
    first
      | (obtain rfl : j = (xss.getD 0 []).length := by omega
         exact ⟨((some ⟨b59, 0, none⟩, (xss.getD 0 []).length * (xss.getD 0 []).length), (some ⟨b61, 0, none⟩, (xss.getD 0 []).length)), by rw [shAD_yes hs, shBD_yes hs, hs, normA_length, normB_length] <;> rfl, by rw [shAD_yes hs, shBD_yes hs]; exact outs_from hbv (hw.outs (List.Sublist.refl _))⟩)
      | (have hs : shOk xss ws gs x n = false := by first | (simp only [shOk, *, Bool.false_and, Bool.and_false, Bool.and_true]; done) | (simp only [shOk, normOk, least, *, Bool.false_and, Bool.and_false, Bool.and_true]; done)
         exact ⟨((none, 0), (none, 0)), by rw [shAD_no hs, shBD_no hs, hs]; rfl, hw.below, by rw [shAD_no hs, shBD_no hs]; simp [fl, Ent.at], by simp [Ent.apart]⟩)
  replace h5 := bnot_f h5
  refine VL.q (.inr ⟨_, _, _, rfl, rfl, rfl⟩) rfl (by decide) (yq_load rfl fb2_Shared rfl zz0 rfl) ?_
  refine VL.q (.inr ⟨_, _, _, rfl, rfl, rfl⟩) rfl (by decide) (yq_callf rfl known43_Shared (.cons rfl (.cons rfl (.cons rfl .nil))) (fun w hw => c_within)) ?_
  refine VL.r (.inr ⟨_, _, _, rfl, rfl, rfl⟩) rfl (by decide) (yr_not rfl rfl) ?_
  refine vr (yr_pick_f rfl rfl rfl) ?_
  refine VL.nil (VE.then_wp ?_)
  refine V.cond rfl (fun h7 => ?_) (fun h7 => ?_)
  · skip
    replace h7 := bnot_t h7
    refine V.seq (V.region ?_)
    refine vr (yr_assign (u := .slice none 0 0) rfl rfl) ?_
    refine vr (yr_assign (u := .slice none 0 0) rfl rfl) ?_
    refine vr (yr_assign (u := .bool false) rfl rfl) ?_
    refine VL.nil (VE.then_wp (V.ret (VE.then_ret ?_)))
    refine ret3 rfl rfl rfl rfl (by nofun) (by nofun) (by nofun) (fun w1 hw => ?_)
    first
      | (obtain rfl : j = (xss.getD 0 []).length := by omega
         exact ⟨((some ⟨b59, 0, none⟩, (xss.getD 0 []).length * (xss.getD 0 []).length), (some ⟨b61, 0, none⟩, (xss.getD 0 []).length)), by rw [shAD_yes hs, shBD_yes hs, hs, normA_length, normB_length] <;> rfl, by rw [shAD_yes hs, shBD_yes hs]; exact outs_from hbv (hw.outs (List.Sublist.refl _))⟩)
      | (have hs : shOk xss ws gs x n = false := by first | (simp only [shOk, *, Bool.false_and, Bool.and_false, Bool.and_true]; done) | (simp only [shOk, normOk, least, *, Bool.false_and, Bool.and_false, Bool.and_true]; done)
         exact ⟨((none, 0), (none, 0)), by rw [shAD_no hs, shBD_no hs, hs]; rfl, hw.below, by rw [shAD_no hs, shBD_no hs]; simp [fl, Ent.at], by simp [Ent.apart]⟩)
  replace h7 := bnot_f h7
  refine V.skip (VE.then_wp (V.seq ?_))
  refine Dr.V.drawR [(0, 5), (1, 5), (3, 5), (4, 5), (2, 2), (6, 2), (7, 2), (8, 3), (5, 2), (9, 3)] [(2, ((fun b => .slice (some ⟨b, 0, none⟩) (blocksN xss.length) (blocksN xss.length)), (fun b => ⟨some ⟨b, 0, none⟩, cycle [Value.slice none 0 0] (blocksN xss.length), (blocksN xss.length) * 1, 23⟩))), (5, ((fun b => .slice (some ⟨b, 0, none⟩) (blocksN xss.length) (blocksN xss.length)), (fun b => ⟨some ⟨b, 0, none⟩, cycle [Value.slice none 0 0] (blocksN xss.length), (blocksN xss.length) * 1, 23⟩))), (6, ((fun b => .pointer (some (adr (some ⟨b, 0, none⟩) 0))), (fun b => ⟨some ⟨b, 0, none⟩, [Value.slice none 0 0], 1, 22⟩))), (7, ((fun b => .pointer (some (adr (some ⟨b, 0, none⟩) 0))), (fun b => ⟨some ⟨b, 0, none⟩, [Value.slice none 0 0], 1, 22⟩)))] [] _ mixed_Shared (by kernel_rfl) (fun w hw => hw) ?_
  refine Dr.SW.p rfl (.inl rfl) rfl (by decide) (yq_loadS rfl Try.underlying30 sz30_Shared rfl zz5 rfl rfl rfl) ?_
  refine Dr.SW.p rfl (.inl rfl) rfl (by decide) (yq_callf rfl known44_Shared (.cons rfl .nil) (fun w hw => (c_blocks (by omega)))) ?_
  refine Dr.SW.p rfl (.inl rfl) rfl (by decide) (yq_loadS rfl Try.underlying30 sz30_Shared rfl zz5 rfl rfl rfl) ?_
  refine Dr.SW.p rfl (.inl rfl) rfl (by decide) (yq_callf rfl known44_Shared (.cons rfl .nil) (fun w hw => (c_blocks (by omega)))) ?_
  refine Dr.SW.a rfl rfl rfl (by decide) rfl (fun w0 => (yn_makeSlicez 1 rfl rfl Try.underlying22 elt23_Shared rfl rfl rfl (by omega) (by omega))) ?_
  intro b38
  refine Dr.SW.a rfl rfl rfl (by decide) rfl (fun w0 => (yn_alloc rfl zero22_Shared rfl)) ?_
  intro b9
  refine Dr.SW.a rfl rfl rfl (by decide) rfl (fun w0 => (yn_alloc rfl zero22_Shared rfl)) ?_
  intro b10
  refine Dr.SW.s rfl (.inl rfl) rfl (yc_store rfl sz22_Shared rfl rfl (Dr.UpdF.app zz8) (.inl ⟨rfl, rfl⟩) rfl (by first | exact Nat.le_of_ble_eq_true rfl | simp) (by decide) rfl) ?_
  rintro ⟨⟩
  refine Dr.SW.a rfl rfl rfl (by decide) rfl (fun w0 => (yn_makeSlicez 1 rfl rfl Try.underlying22 elt23_Shared rfl rfl rfl (by omega) (by omega))) ?_
  intro b41
  refine Dr.SW.s rfl (.inl rfl) rfl (yc_store rfl sz22_Shared rfl rfl (Dr.UpdF.app zz8) (.inl ⟨rfl, rfl⟩) rfl (by first | exact Nat.le_of_ble_eq_true rfl | simp) (by decide) rfl) ?_
  rintro ⟨⟩
  refine Dr.SW.done ?_
  refine Dr.eqO (by simp only [List.append_nil, List.append_assoc, List.cons_append, List.nil_append] <;> rfl) ?_
  refine VE.then_wp (V.seq (V.region ?_))
  refine vr (yr_build rfl lay76_Shared rfl .nil (by first | (simp; done) | (simp [vv]; done) | (simp [cn, cn1, cn0]; done)) rfl) ?_
  refine VL.new1 (.inl rfl) rfl (by decide) (yn_alloc rfl zero76_Shared rfl) ?_
  intro b11
  refine VL.s (.inl rfl) rfl (yc_store rfl sz76_Shared rfl rfl zz8 (.inr ⟨rfl, rfl⟩) rfl (by first | exact Nat.le_of_ble_eq_true rfl | simp) (by decide) rfl) ?_
  rintro ⟨⟩
  refine VL.nil (VE.then_wp ?_)
  have hs : shOk xss ws gs x n = true := by first | (simp only [shOk, normOk, least, *, Bool.false_and, Bool.and_false, Bool.and_true]; done) | (simp only [shOk, normOk, *, Bool.false_and, Bool.and_false, Bool.and_true]; done)
  obtain ⟨n', rfl, hn1, hn8⟩ : ∃ n' : Nat, n = (n' : Int) ∧ 1 ≤ n' ∧ n' ≤ 8 := by
    have hd := of_decide_eq_true (Bool.and_eq_true_iff.1 hs).2
    exact ⟨n.toNat, by omega, by omega, by omega⟩
  have hval := ok_valid (sh_ok hs)
  refine fun a9 w9 h9 hw9 => workers17' (C := ⟨n', b3, b5, b9, b10, b38, b41, a, a1, a2, c, c1, c2, f, xss, ws, gs⟩) (Wg := b11) (x1 := x) hsz hval hn1 hn8 hA hR hW hG (.cons rfl (.cons rfl (.cons rfl (.cons rfl (.cons rfl (.cons rfl .nil)))))) (fun v' fA fB hbv hD => ?_) a9 w9 h9 (hw9.perm' (List.Perm.cons _ ((List.Perm.swap _ _ _).trans (List.Perm.cons _ (List.Perm.swap _ _ _)))))
  clear h9 hw9
  have hval2 := hval
  obtain ⟨v1, v2, v3, v4, v5, v6, v7, v8⟩ := hval
  have hnn : (xss.getD 0 []).length * (xss.getD 0 []).length ≤ 64 := Nat.mul_le_mul v8 v8
  have hix : ∀ {j k : Nat}, j < (xss.getD 0 []).length → k < (xss.getD 0 []).length → j * (xss.getD 0 []).length + k < (xss.getD 0 []).length * (xss.getD 0 []).length := idx_lt
  have hlA : ∀ k, (nmA xss gs (xss.getD 0 []).length k).length = (xss.getD 0 []).length * (xss.getD 0 []).length := nmA_length _ _ _
  have hlB : ∀ k, (nmB xss ws gs (xss.getD 0 []).length k).length = (xss.getD 0 []).length := nmB_length _ _ _ _
  obtain ⟨yA, hyl, hyg, hcA, hRA⟩ : ∃ yA : List (List Nat), yA.length = (blocksN xss.length) ∧ (∀ k, k < (blocksN xss.length) → yA.getD k [] = pcA xss gs (xss.getD 0 []).length k) ∧ Cl v' (some ⟨b38, 0, none⟩) (hd fA yA) ∧ Rws v' fA yA := ⟨_, by simp [WC.rA, WC.nb], fun k hk => rA_get hk, hD.cA, hD.rwA⟩
  obtain ⟨yB, hzl, hzg, hcB, hRB⟩ : ∃ yB : List (List Nat), yB.length = (blocksN xss.length) ∧ (∀ k, k < (blocksN xss.length) → yB.getD k [] = pcB xss ws gs (xss.getD 0 []).length k) ∧ Cl v' (some ⟨b41, 0, none⟩) (hd fB yB) ∧ Rws v' fB yB := ⟨_, by simp [WC.rB, WC.nb], fun k hk => rB_get hk, hD.cB, hD.rwB⟩
  have hq1 : Cl v' (some ⟨b3, 0, none⟩) [.slice a xss.length c, .slice a1 ws.length c1, .slice a2 gs.length c2] := hD.kn.h1
  have hq3 : Cl v' (some ⟨b9, 0, none⟩) [.slice (some ⟨b38, 0, none⟩) ((blocksN xss.length)) ((blocksN xss.length))] := hD.kn.h3
  have hq4 : Cl v' (some ⟨b10, 0, none⟩) [.slice (some ⟨b41, 0, none⟩) ((blocksN xss.length)) ((blocksN xss.length))] := hD.kn.h4
  have hvA : Cl v' a (hd f xss) := hD.kn.hA
  have hlp : ∀ k, k < (blocksN xss.length) → (yA.getD k []).length = (xss.getD 0 []).length * (xss.getD 0 []).length := fun k hk => by rw [hyg k hk]; exact blockA_length _ _ _ _ _
  have hlq : ∀ k, k < (blocksN xss.length) → (yB.getD k []).length = (xss.getD 0 []).length := fun k hk => by rw [hzg k hk]; exact blockB_length _ _ _ _ _ _
  have hstA : ∀ k, k < (blocksN xss.length) → addL (nmA xss gs (xss.getD 0 []).length k) (yA.getD k []) (yA.getD k []).length = nmA xss gs (xss.getD 0 []).length (k + 1) := fun k hk => by rw [hlp k hk, hyg k hk]; rfl
  have hstB : ∀ k, k < (blocksN xss.length) → addL (nmB xss ws gs (xss.getD 0 []).length k) (yB.getD k []) (yB.getD k []).length = nmB xss ws gs (xss.getD 0 []).length (k + 1) := fun k hk => by rw [hlq k hk, hzg k hk]; rfl
  clear hD
  show V _ _ v' [] [(44, .int .i64 (n' : Int)), (43, .int .i64 (n' : Int)), (11, .pointer (some (adr (some ⟨b11, 0, none⟩) 0))), (3, .pointer (some (adr (some ⟨b3, 0, none⟩) 0))), (5, .pointer (some (adr (some ⟨b5, 0, none⟩) 0))), (9, .pointer (some (adr (some ⟨b9, 0, none⟩) 0))), (10, .pointer (some (adr (some ⟨b10, 0, none⟩) 0))), (1, .float .f32 x)] _ _
  refine V.seq (V.region ?_)
  refine vr (yr_fieldAddr rfl Try.underlying30 rfl rfl sz22_Shared (by decide) rfl) ?_
  refine vq (yq_load rfl fb22_Shared rfl zz0 rfl) ?_
  refine vq (yq_idx (k := 0) rfl Try.underlying22 sz23_Shared rfl rfl zz0 zz3 (by first | exact fl_length _ | (rw [hd_length]; assumption) | exact hd_length _ _ | (rw [fl_length, dgA_length]; exact hlA _)) (by first | omega | (rw [dgA_length, hlA]; omega))) ?_
  refine vq (yq_loadH rfl fb23_Shared rfl zz0 (by first | omega | (rw [dgA_length, hlA]; omega))) ?_
  refine vr (yr_len rfl Try.underlying23 rfl) ?_
  refine vr (yr_assign rfl rfl) ?_
  refine VL.nil (VE.then_wp (V.seq ?_))
  refine Dr.V.drawR [(0, 5), (1, 5), (2, 5), (4, 5), (3, 2), (6, 5), (5, 2), (7, 5)] [(3, ((fun b => .slice (some ⟨b, 0, none⟩) ((xss.getD 0 []).length * (xss.getD 0 []).length) ((xss.getD 0 []).length * (xss.getD 0 []).length)), (fun b => ⟨some ⟨b, 0, none⟩, cycle [Value.float .f32 0] ((xss.getD 0 []).length * (xss.getD 0 []).length), ((xss.getD 0 []).length * (xss.getD 0 []).length) * 1, 26⟩))), (5, ((fun b => .slice (some ⟨b, 0, none⟩) (xss.getD 0 []).length (xss.getD 0 []).length), (fun b => ⟨some ⟨b, 0, none⟩, cycle [Value.float .f32 0] (xss.getD 0 []).length, (xss.getD 0 []).length * 1, 26⟩)))] [] _ mixed_Shared (by kernel_rfl) (fun w hw => hw) ?_
  refine Dr.SW.r rfl (.inl rfl) rfl (by decide) (yr_move rfl rfl) ?_
  refine Dr.SW.r rfl (.inl rfl) rfl (by decide) (yr_move rfl rfl) ?_
  refine Dr.SW.r rfl (.inl rfl) rfl (by decide) (yr_mulN (xss.getD 0 []).length (xss.getD 0 []).length rfl rfl rfl (by omega) (by omega) (Nat.le_trans (mul_small (by omega) (by omega)) (by decide))) ?_
  refine Dr.SW.r rfl (.inl rfl) rfl (by decide) (yr_move rfl rfl) ?_
  refine Dr.SW.a rfl rfl rfl (by decide) rfl (fun w0 => (yn_makeSlicez 1 rfl rfl Try.underlying23 elt26_Shared rfl rfl rfl (by omega) (by omega))) ?_
  intro b59
  refine Dr.SW.r rfl (.inl rfl) rfl (by decide) (yr_assign rfl rfl) ?_
  refine Dr.SW.a rfl rfl rfl (by decide) rfl (fun w0 => (yn_makeSlicez 1 rfl rfl Try.underlying23 elt26_Shared rfl rfl rfl (by omega) (by omega))) ?_
  intro b61
  refine Dr.SW.r rfl (.inl rfl) rfl (by decide) (yr_assign rfl rfl) ?_
  refine Dr.SW.done ?_
  refine Dr.eqO (by simp only [List.append_nil, List.append_assoc, List.cons_append, List.nil_append] <;> rfl) ?_
  refine VE.then_wp (V.seq (V.seq (V.region ?_)))
  refine vq (yq_load rfl fb22_Shared rfl zz0 rfl) ?_
  refine vr (yr_len rfl Try.underlying22 rfl) ?_
  refine vr (yr_move (u := .int .i64 0) rfl rfl) ?_
  refine VL.nil (VE.then_wp (V.block ?_))
  refine V.loopc (G := Nat) [(1, _), (9, _), (10, _), (13, _), (14, _), (15, _), (63, _)] (fun (k : Nat) => k ≤ blocksN xss.length) (fun (k : Nat) => [⟨some ⟨b61, 0, none⟩, fl (nmB xss ws gs (xss.getD 0 []).length k), (xss.getD 0 []).length * 1, 26⟩, ⟨some ⟨b59, 0, none⟩, fl (nmA xss gs (xss.getD 0 []).length k), ((xss.getD 0 []).length * (xss.getD 0 []).length) * 1, 26⟩]) (fun (k : Nat) => [(64, .int .i64 (k : Int))]) (fun (k : Nat) => blocksN xss.length - k) 0 (.cons rfl (.cons rfl (.cons rfl (.cons rfl (.cons rfl (.cons rfl (.cons rfl .nil))))))) (.cons rfl .nil) ?_ ?_ ?_
  · exact (fun w hw => by rw [fl_zeros, fl_zeros] at hw; exact hw)
  · exact (by omega)
  rintro k hk
  show V _ _ _ [⟨some ⟨b61, 0, none⟩, fl (nmB xss ws gs (xss.getD 0 []).length k), (xss.getD 0 []).length * 1, 26⟩, ⟨some ⟨b59, 0, none⟩, fl (nmA xss gs (xss.getD 0 []).length k), ((xss.getD 0 []).length * (xss.getD 0 []).length) * 1, 26⟩] ([(64, .int .i64 (k : Int))] ++ [(1, _), (9, _), (10, _), (13, _), (14, _), (15, _), (63, _)]) _ _
  refine V.seq (V.region ?_)
  refine vr (yr_icmp rfl (.inr (.inr (.inl rfl))) rfl rfl) ?_
  refine VL.nil (VE.then_wp (V.seq ?_))
  refine V.cond rfl (fun h8 => ?_) (fun h8 => ?_)
  · skip
    replace h8 := ic_lss h8
    refine V.skip (VE.then_wp (V.seq (V.block (V.seq (V.region ?_)))))
    refine vr (yr_move rfl rfl) ?_
    refine vr (yr_assign rfl rfl) ?_
    refine VL.nil (VE.then_wp (V.seq (V.region ?_)))
    refine vr (yr_move rfl rfl) ?_
    refine vq (yq_load rfl fb22_Shared rfl zz0 rfl) ?_
    refine vr (yr_move rfl rfl) ?_
    refine vq (yq_idx (k := k) rfl Try.underlying22 sz23_Shared rfl rfl zz0 zz3 (by first | exact fl_length _ | (rw [hd_length]; assumption) | exact hd_length _ _ | (rw [fl_length, dgA_length]; exact hlA _)) (by first | omega | (rw [dgA_length, hlA]; omega))) ?_
    refine vq (yq_loadH rfl fb23_Shared rfl zz0 (by first | omega | (rw [dgA_length, hlA]; omega))) ?_
    refine VL.c (.inl rfl) rfl (by decide) (yc_callf rfl known49_Shared (.cons rfl (.cons rfl .nil)) (by apply Pick.one; repeat (first | exact Rem.here | apply Rem.there | apply Rem.thereS)) (c_addLists (by first | exact hRA k (by omega) | exact hRB k (by omega)) (by first | exact hlA _ | exact hlB _) (by first | exact Nat.le_of_eq (hlp k (by omega)) | exact Nat.le_of_eq (hlq k (by omega))) (by omega))) ?_
    rintro ⟨⟩
    refine VL.nil (VE.then_wp (V.region ?_))
    refine vr (yr_move rfl rfl) ?_
    refine vq (yq_load rfl fb22_Shared rfl zz0 rfl) ?_
    refine vr (yr_move rfl rfl) ?_
    refine vq (yq_idx (k := k) rfl Try.underlying22 sz23_Shared rfl rfl zz0 zz3 (by first | exact fl_length _ | (rw [hd_length]; assumption) | exact hd_length _ _ | (rw [fl_length, dgA_length]; exact hlA _)) (by first | omega | (rw [dgA_length, hlA]; omega))) ?_
    refine vq (yq_loadH rfl fb23_Shared rfl zz0 (by first | omega | (rw [dgA_length, hlA]; omega))) ?_
    refine VL.c (.inl rfl) rfl (by decide) (yc_callf rfl known49_Shared (.cons rfl (.cons rfl .nil)) (by apply Pick.one; repeat (first | exact Rem.here | apply Rem.there | apply Rem.thereS)) (c_addLists (by first | exact hRA k (by omega) | exact hRB k (by omega)) (by first | exact hlA _ | exact hlB _) (by first | exact Nat.le_of_eq (hlp k (by omega)) | exact Nat.le_of_eq (hlq k (by omega))) (by omega))) ?_
    rintro ⟨⟩
    refine VL.nil (VE.block_normal (VE.then_wp (V.region ?_)))
    refine vr (yr_int rfl rfl rfl (.inl ⟨rfl, wrap_in (by omega)⟩)) ?_
    refine vr (yr_move rfl rfl) ?_
    refine VL.nil ?_
    refine VE.round (k + 1) ?_ ?_ ?_ ?_ ?_
    · exact (.cons rfl .nil)
    · exact (.cons rfl (.cons rfl (.cons rfl (.cons rfl (.cons rfl (.cons rfl (.cons rfl .nil)))))))
    · exact (fun w hw => by rw [hstA k (by omega), hstB k (by omega)] at hw; exact hw)
    · omega
    · (try dsimp only); omega
  replace h8 := ic_lss' h8
  refine V.exit ?_
  refine VE.then_exit (VE.then_exit (VE.block_here (VE.then_wp (V.seq (V.seq (V.region ?_))))))
  refine vr (yr_move rfl rfl) ?_
  refine vr (yr_move (u := .int .i64 0) rfl rfl) ?_
  refine VL.nil (VE.then_wp (V.block ?_))
  refine V.loopc (G := Nat) [(1, _), (13, _), (14, _), (15, _), (80, _)] (fun (j : Nat) => j ≤ (xss.getD 0 []).length) (fun (j : Nat) => [⟨some ⟨b61, 0, none⟩, fl (nmB xss ws gs (xss.getD 0 []).length (blocksN xss.length)), (xss.getD 0 []).length * 1, 26⟩, ⟨some ⟨b59, 0, none⟩, fl (dgA (nmA xss gs (xss.getD 0 []).length (blocksN xss.length)) x (xss.getD 0 []).length j), ((xss.getD 0 []).length * (xss.getD 0 []).length) * 1, 26⟩]) (fun (j : Nat) => [(81, .int .i64 (j : Int))]) (fun (j : Nat) => (xss.getD 0 []).length - j) 0 (.cons rfl (.cons rfl (.cons rfl (.cons rfl (.cons rfl .nil))))) (.cons rfl .nil) ?_ ?_ ?_
  · exact (fun w hw => by rw [show k = blocksN xss.length by omega] at hw; exact hw)
  · exact (by omega)
  rintro j hj
  show V _ _ _ [⟨some ⟨b61, 0, none⟩, fl (nmB xss ws gs (xss.getD 0 []).length (blocksN xss.length)), (xss.getD 0 []).length * 1, 26⟩, ⟨some ⟨b59, 0, none⟩, fl (dgA (nmA xss gs (xss.getD 0 []).length (blocksN xss.length)) x (xss.getD 0 []).length j), ((xss.getD 0 []).length * (xss.getD 0 []).length) * 1, 26⟩] ([(81, .int .i64 (j : Int))] ++ [(1, _), (13, _), (14, _), (15, _), (80, _)]) _ _
  have hjj := fun (h : j < (xss.getD 0 []).length) => hix h h
  refine V.seq (V.region ?_)
  refine vr (yr_icmp rfl (.inr (.inr (.inl rfl))) rfl rfl) ?_
  refine VL.nil (VE.then_wp (V.seq ?_))
  refine V.cond rfl (fun h9 => ?_) (fun h9 => ?_)
  · skip
    replace h9 := ic_lss h9
    refine V.skip (VE.then_wp (V.seq (V.block (V.seq (V.region ?_)))))
    refine vr (yr_move rfl rfl) ?_
    refine vr (yr_assign rfl rfl) ?_
    refine VL.nil (VE.then_wp (V.region ?_))
    refine vr (yr_move rfl rfl) ?_
    refine vr (yr_move rfl rfl) ?_
    refine vr (yr_move rfl rfl) ?_
    refine vr (yr_mulN j (xss.getD 0 []).length rfl rfl rfl (by omega) (by omega) (Nat.le_trans (mul_small (by omega) (by omega)) (by decide))) ?_
    refine vr (yr_move rfl rfl) ?_
    refine vr (yr_int rfl rfl rfl (.inl ⟨rfl, wrap_in (by omega)⟩)) ?_
    refine vr (yr_move rfl rfl) ?_
    refine vr (yr_move rfl rfl) ?_
    refine vr (yr_move rfl rfl) ?_
    refine vr (yr_mulN j (xss.getD 0 []).length rfl rfl rfl (by omega) (by omega) (Nat.le_trans (mul_small (by omega) (by omega)) (by decide))) ?_
    refine vr (yr_move rfl rfl) ?_
    refine vr (yr_int rfl rfl rfl (.inl ⟨rfl, wrap_in (by omega)⟩)) ?_
    refine vq (yq_idx (k := ((j * (xss.getD 0 []).length) + j)) rfl Try.underlying23 sz26_Shared rfl rfl zz0 zz3 (by first | exact fl_length _ | (rw [hd_length]; assumption) | exact hd_length _ _ | (rw [fl_length, dgA_length]; exact hlA _)) (by first | omega | (rw [dgA_length, hlA]; omega))) ?_
    refine vq (yq_loadF rfl fb26_Shared rfl zz0 (by first | omega | (rw [dgA_length, hlA]; omega))) ?_
    refine vr (yr_move rfl rfl) ?_
    refine vr (yr_float rfl (.inl rfl) rfl rfl) ?_
    refine vq (yq_idx (k := ((j * (xss.getD 0 []).length) + j)) rfl Try.underlying23 sz26_Shared rfl rfl zz0 zz3 (by first | exact fl_length _ | (rw [hd_length]; assumption) | exact hd_length _ _ | (rw [fl_length, dgA_length]; exact hlA _)) (by first | omega | (rw [dgA_length, hlA]; omega))) ?_
    refine VL.s (.inl rfl) rfl (yc_store rfl sz26_Shared rfl rfl zz8 (.inl ⟨rfl, rfl⟩) rfl (by rw [fl_length, dgA_length, hlA]; omega) (by decide) (fl_set _ _ _)) ?_
    rintro ⟨⟩
    refine VL.nil (VE.block_normal (VE.then_wp (V.region ?_)))
    refine vr (yr_int rfl rfl rfl (.inl ⟨rfl, wrap_in (by omega)⟩)) ?_
    refine vr (yr_move rfl rfl) ?_
    refine VL.nil ?_
    refine VE.round (j + 1) ?_ ?_ ?_ ?_ ?_
    · exact (.cons rfl .nil)
    · exact (.cons rfl (.cons rfl (.cons rfl (.cons rfl (.cons rfl .nil)))))
    · exact (fun w hw => hw)
    · omega
    · (try dsimp only); omega
  replace h9 := ic_lss' h9
  refine V.exit ?_
  refine VE.then_exit (VE.then_exit (VE.block_here (VE.then_wp (V.seq (V.region ?_)))))
  refine vr (yr_move rfl rfl) ?_
  refine vr (yr_move rfl rfl) ?_
  refine vr (yr_assign rfl rfl) ?_
  refine vr (yr_assign rfl rfl) ?_
  refine vr (yr_assign (u := .bool true) rfl rfl) ?_
  refine VL.nil (VE.then_wp (V.ret ?_))
  refine ret3 rfl rfl rfl rfl (by nofun) (by nofun) (by nofun) (fun w1 hw => ?_)
  first
    | (obtain rfl : j = (xss.getD 0 []).length := by omega
       exact ⟨((some ⟨b59, 0, none⟩, (xss.getD 0 []).length * (xss.getD 0 []).length), (some ⟨b61, 0, none⟩, (xss.getD 0 []).length)), by rw [shAD_yes hs, shBD_yes hs, hs, normA_length, normB_length] <;> rfl, by rw [shAD_yes hs, shBD_yes hs]; exact outs_from hbv (hw.outs (List.Sublist.refl _))⟩)
    | (have hs : shOk xss ws gs x n = false := by first | (simp only [shOk, *, Bool.false_and, Bool.and_false, Bool.and_true]; done) | (simp only [shOk, normOk, least, *, Bool.false_and, Bool.and_false, Bool.and_true]; done)
       exact ⟨((none, 0), (none, 0)), by rw [shAD_no hs, shBD_no hs, hs]; rfl, hw.below, by rw [shAD_no hs, shBD_no hs]; simp [fl, Ent.at], by simp [Ent.apart]⟩)
theorem c_implNorm {w : World} {a a1 a2 : Option Addr} {c c1 c2 : Nat} {f : Nat → Option Addr × Nat} {xss : List (List Nat)} {ws gs : List Nat} {x : Nat} (hA : Cl w a (hd f xss)) (hR : Rws w f xss) (hW : Cl w a1 (fl ws)) (hG : Cl w a2 (fl gs)) (hsz : bulk xss + ws.length + gs.length ≤ 1050000) : New Try.prog 10 [.agg #[.slice a xss.length c, .slice a1 ws.length c1, .slice a2 gs.length c2], .float .f32 x] w (fun p : (Option Addr × Nat) × (Option Addr × Nat) => .tuple #[.slice p.1.1 (normAD xss ws gs x).length p.1.2, .slice p.2.1 (normBD xss ws gs x).length p.2.2, .bool (normOk xss ws gs x)]) (fun p => [⟨p.2.1, fl (normBD xss ws gs x), p.2.2 * 1, 26⟩, ⟨p.1.1, fl (normAD xss ws gs x), p.1.2 * 1, 26⟩]) := by
  refine New.enter Try.func10 rfl Try.ntmps10 (Nat.le_of_ble_eq_true rfl) ?_
  have hr : ∀ i, i < xss.length → (xss.getD i []).length ≤ 1050000 := fun i hi => by have := bulk_row hi; omega
  have hxl : xss.length ≤ bulk xss := by unfold bulk; omega
  refine V.seq (V.region ?_)
  refine VL.new1 (.inl rfl) rfl (by decide) (yn_box rfl rfl (.inr ⟨rfl, rfl⟩)) ?_
  intro b2
  refine vr (yr_assign (u := .slice none 0 0) rfl rfl) ?_
  refine vr (yr_assign (u := .slice none 0 0) rfl rfl) ?_
  refine vr (yr_assign (u := .bool false) rfl rfl) ?_
  refine VL.nil (VE.then_wp (V.seq (V.region ?_)))
  refine vq (yq_loadS rfl Try.underlying30 sz30_Shared rfl zz0 rfl rfl rfl) ?_
  refine vr (yr_move rfl rfl) ?_
  refine VL.new (.inl rfl) rfl (by decide) (yn_callf rfl known17_Shared (.cons rfl (.cons rfl (.cons rfl .nil))) (fun w hw => (c_implShared zz1 zz7 zz1 zz1 (by omega)))) ?_
  rintro ⟨⟨a9, c9⟩, ⟨d9, e9⟩⟩
  refine vr (yr_extract rfl rfl rfl (by nofun)) ?_
  refine vr (yr_extract rfl rfl rfl (by nofun)) ?_
  refine vr (yr_extract rfl rfl rfl (by nofun)) ?_
  refine vr (yr_assign rfl rfl) ?_
  refine vr (yr_assign rfl rfl) ?_
  refine vr (yr_assign rfl rfl) ?_
  refine VL.nil (VE.then_wp (V.ret ?_))
  refine ret3 rfl rfl rfl rfl (by nofun) (by nofun) (by nofun) (fun w1 hw => ?_)
  obtain ⟨q1, q2, q3⟩ := sh_norm (xss := xss) (ws := ws) (gs := gs) (x := x) (n := 1) (by decide)
  exact ⟨((a9, c9), (d9, e9)), by rw [q1, q2, q3] <;> rfl, by rw [← q2, ← q3]; exact hw.outs (((List.nil_sublist _).cons_cons _).cons_cons _)⟩
end Go.Proofs.Ytgeflnjjppgooaa.Q

namespace Go.Proofs.Ytgeflnjjppgooaa
def cS (a l : List Nat) (n j : Nat) : Nat → Nat
  | 0 => a.getD (j * n + j) 0
  | k + 1 => fop .sub .f32 (cS a l n j k) (fop .mul .f32 (l.getD (j * n + k) 0) (l.getD (j * n + k) 0))
def cX (a l : List Nat) (n i j : Nat) : Nat → Nat
  | 0 => a.getD (i * n + j) 0
  | k + 1 => fop .sub .f32 (cX a l n i j k) (fop .mul .f32 (l.getD (i * n + k) 0) (l.getD (j * n + k) 0))
def cCol (a : List Nat) (n j : Nat) (l0 : List Nat) : Nat → List Nat
  | 0 => l0
  | c + 1 => (cCol a n j l0 c).set ((j + 1 + c) * n + j) (fop .quo .f32 (cX a (cCol a n j l0 c) n (j + 1 + c) j j) ((cCol a n j l0 c).getD (j * n + j) 0))
def chol (a : List Nat) (n : Nat) : Nat → List Nat
  | 0 => List.replicate (n * n) 0
  | j + 1 => cCol a n j ((chol a n j).set (j * n + j) (sqrt32 (cS a (chol a n j) n j j))) (n - (j + 1))
def cholOk (a : List Nat) (n : Nat) : Bool := decide (n ≠ 0) && (List.range n).all (fun j => fcmp .gtr .f32 (cS a (chol a n j) n j j) 0)
def cholOf (a : List Nat) (n : Nat) : List Nat := if cholOk a n then chol a n n else []
theorem cCol_length (a : List Nat) (n j : Nat) (l0 : List Nat) : ∀ c, (cCol a n j l0 c).length = l0.length
  | 0 => rfl
  | c + 1 => by rw [cCol, List.length_set, cCol_length a n j l0 c]
theorem chol_length (a : List Nat) (n : Nat) : ∀ j, (chol a n j).length = n * n
  | 0 => by simp [chol]
  | j + 1 => by rw [chol, cCol_length, List.length_set, chol_length a n j]
theorem length_cholOf {a : List Nat} {n : Nat} (h : n ≤ 8) : (cholOf a n).length ≤ 64 := by
  unfold cholOf
  split
  · rw [chol_length]; exact Nat.mul_le_mul h h
  · simp
theorem chol_no0 {a : List Nat} {n : Nat} (h : n = 0) : cholOk a n = false := by simp [cholOk, h]
theorem chol_no1 {a : List Nat} {n j : Nat} (hj : j < n) (h : fcmp .gtr .f32 (cS a (chol a n j) n j j) 0 = false) : cholOk a n = false := by
  have : (List.range n).all (fun j => fcmp .gtr .f32 (cS a (chol a n j) n j j) 0) = false := by
    rw [Bool.eq_false_iff]
    intro ha
    have := List.all_eq_true.1 ha j (by simpa using hj)
    rw [h] at this
    cases this
  simp only [cholOk, this, Bool.and_false]
theorem chol_yes {a : List Nat} {n : Nat} (h0 : n ≠ 0) (h2 : ∀ j, j < n → fcmp .gtr .f32 (cS a (chol a n j) n j j) 0 = true) : cholOk a n = true := by
  have : (List.range n).all (fun j => fcmp .gtr .f32 (cS a (chol a n j) n j j) 0) = true := by
    rw [List.all_eq_true]
    intro j hj
    exact h2 j (by simpa using hj)
  simp only [cholOk, this, h0, ne_eq, not_false_eq_true, decide_true, Bool.and_true]
theorem cholOf_no {a : List Nat} {n : Nat} (h : cholOk a n = false) : cholOf a n = [] := by simp [cholOf, h]
theorem cholOf_yes {a : List Nat} {n : Nat} (h : cholOk a n = true) : cholOf a n = chol a n n := by simp [cholOf, h]
end Go.Proofs.Ytgeflnjjppgooaa

namespace Go.Proofs.Ytgeflnjjppgooaa.Q
open Go.RowKit
set_option linter.unusedVariables false
set_option linter.unusedSimpArgs false
set_option maxRecDepth 20000
set_option maxHeartbeats 800000
attribute [local irreducible] wqList Wq
theorem ext110_Chol : ExtF Try.prog 110 Extern.MathSqrt.sqrt := ⟨_, Try.func110, by kernel_rfl, by kernel_rfl, by kernel_rfl, by kernel_rfl⟩
theorem known91_Chol : Known Try.prog 91 := Known.mk' Try.func91 (by kernel_rfl)
theorem known109_Chol : Known Try.prog 109 := Known.mk' Try.func109 (by kernel_rfl)
theorem elt26_Chol : Elt Try.prog 26 [Value.float .f32 0] 4 := Elt.mk' (by kernel_rfl) (by decide)
theorem sz26_Chol : (Try.prog.info? 26).map (·.size) = some 1 := by kernel_rfl
theorem fb26_Chol : flatB Try.prog 26 = true := by kernel_rfl
theorem mixed_Chol : Try.prog.follows .mixedOrders = true := by kernel_rfl
theorem known86_Chol : Known Try.prog 86 := Known.mk' Try.func86 (by kernel_rfl)
theorem known58_Chol : Known Try.prog 58 := Known.mk' Try.func58 (by kernel_rfl)
theorem known59_Chol : Known Try.prog 59 := Known.mk' Try.func59 (by kernel_rfl)
theorem c_Sqrt [PhC] {w : World} (x : Nat) : Pure Try.prog 91 [.float .f64 x] w (.float .f64 (fsqrt x)) := by
  refine Pure.enter Try.func91 rfl Try.ntmps91 (Nat.le_of_ble_eq_true rfl) ?_
  refine V.seq (V.region ?_)
  refine vr (yr_assign (u := .float .f64 0) rfl rfl) ?_
  refine VL.nil (VE.then_wp (V.seq (V.region ?_)))
  refine vr (yr_move rfl rfl) ?_
  refine vq (yq_ext rfl ext110_Chol (.cons rfl .nil) (fun vs w h => ext_sqrt vs w h)) ?_
  refine vr (yr_assign rfl rfl) ?_
  refine VL.nil (VE.then_wp (V.ret ?_))
  refine ret1 rfl rfl (fun w1 hw => ?_)
  exact ⟨rfl, hw.below⟩
theorem c_RootNumber [PhC] {w : World} (x : Nat) : Pure Try.prog 59 [.float .f32 x] w (.float .f32 (sqrt32 x)) := by
  refine Pure.enter Try.func59 rfl Try.ntmps59 (Nat.le_of_ble_eq_true rfl) ?_
  refine V.seq (V.region ?_)
  refine vr (yr_assign (u := .float .f32 0) rfl rfl) ?_
  refine VL.nil (VE.then_wp (V.seq (V.region ?_)))
  refine vr (yr_move rfl rfl) ?_
  refine vr (yr_fconv rfl Try.underlying26 Try.underlying51 (by decide) rfl (fover_up _)) ?_
  refine vq (yq_callf rfl known91_Chol (.cons rfl .nil) (fun w hw => c_Sqrt _)) ?_
  refine vr (yr_fconv rfl Try.underlying51 Try.underlying26 (by decide) rfl (fover_sqrt _)) ?_
  refine vr (yr_assign rfl rfl) ?_
  refine VL.nil (VE.then_wp (V.ret ?_))
  refine ret1 rfl rfl (fun w1 hw => ?_)
  exact ⟨rfl, hw.below⟩
theorem c_l01Narrow [PhC] {w : World} {x : Nat} (hx : fover .f64 .f32 x = false) : Pure Try.prog 109 [.float .f64 x] w (.float .f32 (fconv .f64 .f32 x)) := by
  refine Pure.enter Try.func109 rfl Try.ntmps109 (Nat.le_of_ble_eq_true rfl) ?_
  refine V.seq (V.region ?_)
  refine vr (yr_assign (u := .float .f32 0) rfl rfl) ?_
  refine VL.nil (VE.then_wp (V.seq (V.region ?_)))
  refine vr (yr_move rfl rfl) ?_
  refine vr (yr_fconv rfl Try.underlying51 Try.underlying26 (by decide) rfl hx) ?_
  refine vr (yr_assign rfl rfl) ?_
  refine VL.nil (VE.then_wp (V.ret ?_))
  refine ret1 rfl rfl (fun w1 hw => ?_)
  exact ⟨rfl, hw.below⟩
theorem c_l01Sqrt [PhC] {w : World} (x : Nat) : Pure Try.prog 86 [.float .f32 x] w (.float .f32 (sqrt32 x)) := by
  refine Pure.enter Try.func86 rfl Try.ntmps86 (Nat.le_of_ble_eq_true rfl) ?_
  refine V.seq (V.region ?_)
  refine vr (yr_assign (u := .float .f32 0) rfl rfl) ?_
  refine VL.nil (VE.then_wp (V.seq (V.region ?_)))
  refine vr (yr_move rfl rfl) ?_
  refine vr (yr_fconv rfl Try.underlying26 Try.underlying51 (by decide) rfl (fover_up _)) ?_
  refine vq (yq_callf rfl known91_Chol (.cons rfl .nil) (fun w hw => c_Sqrt _)) ?_
  refine vq (yq_callf rfl known109_Chol (.cons rfl .nil) (fun w hw => c_l01Narrow (fover_sqrt _))) ?_
  refine vr (yr_assign rfl rfl) ?_
  refine VL.nil (VE.then_wp (V.ret ?_))
  refine ret1 rfl rfl (fun w1 hw => ?_)
  exact ⟨rfl, hw.below⟩
theorem c_l07Cholesky [PhC] {w : World} {a : Option Addr} {c n : Nat} {xs : List Nat} (hA : Cl w a (fl xs)) (hxs : xs.length = n * n) (hn8 : n ≤ 8) (hn0 : n ≠ 0) : New Try.prog 50 [.slice a xs.length c, .int .i64 (n : Int)] w (fun p : Option Addr × Nat => .tuple #[.slice p.1 (cholOf xs n).length p.2, .bool (cholOk xs n)]) (fun p => [⟨p.1, fl (cholOf xs n), p.2 * 1, 26⟩]) := by
  have hnn : n * n ≤ 64 := Nat.mul_le_mul hn8 hn8
  have hix : ∀ {j k : Nat}, j < n → k < n → j * n + k < n * n := idx_lt
  refine New.enter Try.func50 rfl Try.ntmps50 (Nat.le_of_ble_eq_true rfl) ?_
  refine V.seq (V.region ?_)
  refine vr (yr_assign (u := .slice none 0 0) rfl rfl) ?_
  refine vr (yr_assign (u := .bool false) rfl rfl) ?_
  refine VL.nil (VE.then_wp (V.seq (V.region ?_)))
  refine vr (yr_move rfl rfl) ?_
  refine vr (yr_move rfl rfl) ?_
  refine vr (yr_mulN n n rfl rfl rfl (by omega) (by omega) (Nat.le_trans (mul_small (by omega) (by omega)) (by decide))) ?_
  refine VL.new1 (.inl rfl) rfl (by decide) (yn_makeSlicez 1 rfl rfl Try.underlying23 elt26_Chol rfl rfl rfl (by omega) (by omega)) ?_
  intro b16
  refine vr (yr_assign rfl rfl) ?_
  refine VL.nil (VE.then_wp (V.seq (V.seq (V.region ?_))))
  refine vr (yr_assign (u := .int .i64 0) rfl rfl) ?_
  refine VL.nil (VE.then_wp (V.block ?_))
  refine V.loopc (G := Nat × (List Nat)) [(0, _), (1, _), (6, _)] (fun ⟨j, l⟩ => j ≤ n ∧ l.length = n * n ∧ l = chol xs n j ∧ ∀ t, t < j → fcmp .gtr .f32 (cS xs (chol xs n t) n t t) 0 = true) (fun ⟨j, l⟩ => [⟨some ⟨b16, 0, none⟩, fl l, n * n * 1, 26⟩]) (fun ⟨j, l⟩ => [(7, .int .i64 (j : Int))]) (fun ⟨j, l⟩ => n - j) (0, List.replicate (n * n) 0) (.cons rfl (.cons rfl (.cons rfl .nil))) (.cons rfl .nil) ?_ ?_ ?_
  · exact (fun w hw => by rw [fl_zeros] at hw; exact hw)
  · exact (by exact ⟨by omega, by simp, rfl, fun t h => by omega⟩)
  rintro ⟨j, l⟩ ⟨hj, hll, hl, hc⟩
  show V _ _ _ [⟨some ⟨b16, 0, none⟩, fl l, n * n * 1, 26⟩] ([(7, .int .i64 (j : Int))] ++ [(0, _), (1, _), (6, _)]) _ _
  have hjj : j < n → j * n + j < n * n := fun h => hix h h
  refine V.seq (V.seq (V.region ?_))
  refine vr (yr_move rfl rfl) ?_
  refine vr (yr_move rfl rfl) ?_
  refine vr (yr_icmp rfl (.inr (.inr (.inl rfl))) rfl rfl) ?_
  refine VL.nil (VE.then_wp ?_)
  refine V.cond rfl (fun h1 => ?_) (fun h1 => ?_)
  · skip
    replace h1 := ic_lss h1
    refine V.skip (VE.then_wp (V.seq (V.block (V.seq (V.region ?_)))))
    refine vr (yr_move rfl rfl) ?_
    refine vr (yr_move rfl rfl) ?_
    refine vr (yr_move rfl rfl) ?_
    refine vr (yr_mulN j n rfl rfl rfl (by omega) (by omega) (Nat.le_trans (mul_small (by omega) (by omega)) (by decide))) ?_
    refine vr (yr_move rfl rfl) ?_
    refine vr (yr_int rfl rfl rfl (.inl ⟨rfl, wrap_in (by omega)⟩)) ?_
    refine vq (yq_idx (k := ((j * n) + j)) rfl Try.underlying23 sz26_Chol rfl rfl zz0 zz3 zz10 (by omega)) ?_
    refine vq (yq_loadF rfl fb26_Chol rfl zz0 (by omega)) ?_
    refine vr (yr_assign rfl rfl) ?_
    refine VL.nil (VE.then_wp (V.seq (V.seq (V.region ?_))))
    refine vr (yr_assign (u := .int .i64 0) rfl rfl) ?_
    refine VL.nil (VE.then_wp (V.block ?_))
    refine V.loops (G := Nat) [(0, _), (1, _), (6, _), (7, _)] (fun (k : Nat) => k ≤ j) (fun (k : Nat) => [(8, .float .f32 (cS xs l n j k)), (9, .int .i64 (k : Int))]) (fun (k : Nat) => j - k) 0 (.cons rfl (.cons rfl (.cons rfl (.cons rfl .nil)))) (.cons rfl (.cons rfl .nil)) ?_ ?_
    · exact (by omega)
    rintro k hk
    show V _ _ _ _ ([(8, .float .f32 (cS xs l n j k)), (9, .int .i64 (k : Int))] ++ [(0, _), (1, _), (6, _), (7, _)]) _ _
    have hjk : j < n → k < j → j * n + k < n * n := fun h g => hix h (by omega)
    refine V.seq (V.seq (V.region ?_))
    refine vr (yr_move rfl rfl) ?_
    refine vr (yr_move rfl rfl) ?_
    refine vr (yr_icmp rfl (.inr (.inr (.inl rfl))) rfl rfl) ?_
    refine VL.nil (VE.then_wp ?_)
    refine V.cond rfl (fun h2 => ?_) (fun h2 => ?_)
    · skip
      replace h2 := ic_lss h2
      refine V.skip (VE.then_wp (V.seq (V.block ?_)))
      refine V.draw [(0, 0), (1, 0), (2, 0), (3, 0), (4, 0), (5, 0), (6, 0), (7, 0), (8, 0), (9, 0), (10, 0), (11, 0), (12, 0), (13, 0), (14, 0), (15, 0), (16, 0), (17, 0), (18, 0), (19, 0)] mixed_Chol (by kernel_rfl) (by intro j o hj; simp at hj) ?_
      refine sr rfl (yr_move rfl rfl) ?_
      refine sr rfl (yr_move rfl rfl) ?_
      refine sr rfl (yr_move rfl rfl) ?_
      refine sr rfl (yr_move rfl rfl) ?_
      refine sr rfl (yr_mulN j n rfl rfl rfl (by omega) (by omega) (Nat.le_trans (mul_small (by omega) (by omega)) (by decide))) ?_
      refine sr rfl (yr_move rfl rfl) ?_
      refine sr rfl (yr_int rfl rfl rfl (.inl ⟨rfl, wrap_in (by omega)⟩)) ?_
      refine sq rfl (yq_idx (k := ((j * n) + k)) rfl Try.underlying23 sz26_Chol rfl rfl zz0 zz3 zz10 (by omega)) ?_
      refine sq rfl (yq_loadF rfl fb26_Chol rfl zz0 (by omega)) ?_
      refine sr rfl (yr_move rfl rfl) ?_
      refine sr rfl (yr_move rfl rfl) ?_
      refine sr rfl (yr_move rfl rfl) ?_
      refine sr rfl (yr_mulN j n rfl rfl rfl (by omega) (by omega) (Nat.le_trans (mul_small (by omega) (by omega)) (by decide))) ?_
      refine sr rfl (yr_move rfl rfl) ?_
      refine sr rfl (yr_int rfl rfl rfl (.inl ⟨rfl, wrap_in (by omega)⟩)) ?_
      refine sq rfl (yq_idx (k := ((j * n) + k)) rfl Try.underlying23 sz26_Chol rfl rfl zz0 zz3 zz10 (by omega)) ?_
      refine sq rfl (yq_loadF rfl fb26_Chol rfl zz0 (by omega)) ?_
      refine sr rfl (yr_float rfl (.inr (.inr (.inl rfl))) rfl rfl) ?_
      refine sr rfl (yr_float rfl (.inr (.inl rfl)) rfl rfl) ?_
      refine sr rfl (yr_assign rfl rfl) ?_
      refine SW.done ?_
      refine VE.block_normal (VE.then_wp (V.region ?_))
      refine vr (yr_move rfl rfl) ?_
      refine vr (yr_int rfl rfl rfl (.inl ⟨rfl, wrap_in (by omega)⟩)) ?_
      refine vr (yr_assign rfl rfl) ?_
      refine VL.nil ?_
      refine VE.round (k + 1) ?_ ?_ ?_ ?_ ?_
      · exact (.cons rfl (.cons rfl .nil))
      · exact (.cons rfl (.cons rfl (.cons rfl (.cons rfl .nil))))
      · exact (fun w hw => hw)
      · omega
      · (try dsimp only); omega
    replace h2 := ic_lss' h2
    refine V.exit ?_
    refine VE.then_exit (VE.then_exit (VE.block_here (VE.then_wp (V.seq (V.seq (V.region ?_))))))
    refine vr (yr_move rfl rfl) ?_
    refine vr (yr_fcmp (b := 0) rfl (.inr (.inr (.inr (.inr (.inl rfl))))) rfl rfl) ?_
    refine vr (yr_not rfl rfl) ?_
    refine VL.nil (VE.then_wp ?_)
    refine V.cond rfl (fun h3 => ?_) (fun h3 => ?_)
    · skip
      replace h3 := bnot_t h3
      refine V.seq (V.region ?_)
      refine vr (yr_assign (u := .slice none 0 0) rfl rfl) ?_
      refine vr (yr_assign (u := .bool false) rfl rfl) ?_
      refine VL.nil (VE.then_wp (V.ret (VE.then_ret ?_)))
      refine VE.block_ret ?_
      refine VE.then_ret (VE.then_ret ?_)
      refine VE.block_ret ?_
      refine VE.then_ret ?_
      refine ret2 rfl rfl rfl (by nofun) (by nofun) (fun w1 hw => ?_)
      obtain rfl : k = j := by omega
      have hs : cholOk xs n = false := chol_no1 (j := k) (by omega) (by rw [← hl]; assumption)
      exact ⟨(none, 0), by rw [cholOf_no hs, hs]; rfl, hw.below, by rw [cholOf_no hs]; simp [fl, Ent.at], List.pairwise_singleton _ _⟩
    replace h3 := bnot_f h3
    refine V.skip (VE.then_wp (V.seq (V.region ?_)))
    refine vr (yr_move rfl rfl) ?_
    refine vr (yr_move rfl rfl) ?_
    refine vr (yr_move rfl rfl) ?_
    refine vr (yr_mulN j n rfl rfl rfl (by omega) (by omega) (Nat.le_trans (mul_small (by omega) (by omega)) (by decide))) ?_
    refine vr (yr_move rfl rfl) ?_
    refine vr (yr_int rfl rfl rfl (.inl ⟨rfl, wrap_in (by omega)⟩)) ?_
    refine vr (yr_move rfl rfl) ?_
    refine vq (yq_callf rfl known86_Chol (.cons rfl .nil) (fun w hw => c_l01Sqrt _)) ?_
    refine vq (yq_idx (k := ((j * n) + j)) rfl Try.underlying23 sz26_Chol rfl rfl zz0 zz3 zz10 (by omega)) ?_
    refine VL.s (.inl rfl) rfl (yc_store rfl sz26_Chol rfl rfl zz8 (.inl ⟨rfl, rfl⟩) rfl (by rw [fl_length]; omega) (by decide) (fl_set _ _ _)) ?_
    rintro ⟨⟩
    refine VL.nil (VE.then_wp (V.seq (V.region ?_)))
    refine vr (yr_move rfl rfl) ?_
    refine vr (yr_int rfl rfl rfl (.inl ⟨rfl, wrap_in (by omega)⟩)) ?_
    refine vr (yr_assign rfl rfl) ?_
    refine VL.nil (VE.then_wp (V.block ?_))
    refine V.loopc (G := Nat × (List Nat)) [(0, _), (1, _), (6, _), (7, _)] (fun ⟨c, m⟩ => j + 1 + c ≤ n ∧ m.length = n * n ∧ m = cCol xs n j (l.set (j * n + j) (sqrt32 (cS xs l n j j))) c) (fun ⟨c, m⟩ => [⟨some ⟨b16, 0, none⟩, fl m, n * n * 1, 26⟩]) (fun ⟨c, m⟩ => [(10, .int .i64 ((j + 1 + c : Nat) : Int))]) (fun ⟨c, m⟩ => n - (j + 1 + c)) (0, l.set (j * n + j) (sqrt32 (cS xs l n j k))) (.cons rfl (.cons rfl (.cons rfl (.cons rfl .nil)))) (.cons (congrArg (fun i => some (Value.int .i64 i)) (by omega)) .nil) ?_ ?_ ?_
    · exact (fun w hw => hw)
    · exact (by obtain rfl : k = j := (by omega); exact ⟨by omega, by simp [hll], rfl⟩)
    rintro ⟨c, m⟩ ⟨hcn, hml, hm⟩
    show V _ _ _ [⟨some ⟨b16, 0, none⟩, fl m, n * n * 1, 26⟩] ([(10, .int .i64 ((j + 1 + c : Nat) : Int))] ++ [(0, _), (1, _), (6, _), (7, _)]) _ _
    have hij : j + 1 + c < n → (j + 1 + c) * n + j < n * n := fun h => hix h (by omega)
    refine V.seq (V.seq (V.region ?_))
    refine vr (yr_move rfl rfl) ?_
    refine vr (yr_move rfl rfl) ?_
    refine vr (yr_icmp rfl (.inr (.inr (.inl rfl))) rfl rfl) ?_
    refine VL.nil (VE.then_wp ?_)
    refine V.cond rfl (fun h4 => ?_) (fun h4 => ?_)
    · skip
      replace h4 := ic_lss h4
      refine V.skip (VE.then_wp (V.seq (V.block (V.seq (V.region ?_)))))
      refine vr (yr_move rfl rfl) ?_
      refine vr (yr_move rfl rfl) ?_
      refine vr (yr_move rfl rfl) ?_
      refine vr (yr_mulN (j + 1 + c) n rfl rfl rfl (by omega) (by omega) (Nat.le_trans (mul_small (by omega) (by omega)) (by decide))) ?_
      refine vr (yr_move rfl rfl) ?_
      refine vr (yr_int rfl rfl rfl (.inl ⟨rfl, wrap_in (by omega)⟩)) ?_
      refine vq (yq_idx (k := (((j + 1 + c) * n) + j)) rfl Try.underlying23 sz26_Chol rfl rfl zz0 zz3 zz10 (by omega)) ?_
      refine vq (yq_loadF rfl fb26_Chol rfl zz0 (by omega)) ?_
      refine vr (yr_assign rfl rfl) ?_
      refine VL.nil (VE.then_wp (V.seq (V.seq (V.region ?_))))
      refine vr (yr_assign (u := .int .i64 0) rfl rfl) ?_
      refine VL.nil (VE.then_wp (V.block ?_))
      refine V.loops (G := Nat) [(0, _), (1, _), (6, _), (7, _), (10, _)] (fun (q : Nat) => q ≤ j) (fun (q : Nat) => [(11, .float .f32 (cX xs m n (j + 1 + c) j q)), (12, .int .i64 (q : Int))]) (fun (q : Nat) => j - q) 0 (.cons rfl (.cons rfl (.cons rfl (.cons rfl (.cons rfl .nil))))) (.cons rfl (.cons rfl .nil)) ?_ ?_
      · exact (by omega)
      rintro q hq
      show V _ _ _ _ ([(11, .float .f32 (cX xs m n (j + 1 + c) j q)), (12, .int .i64 (q : Int))] ++ [(0, _), (1, _), (6, _), (7, _), (10, _)]) _ _
      have hjq : j < n → q < j → j * n + q < n * n := fun h g => hix h (by omega)
      have hiq : j + 1 + c < n → q < j → (j + 1 + c) * n + q < n * n := fun h g => hix h (by omega)
      refine V.seq (V.seq (V.region ?_))
      refine vr (yr_move rfl rfl) ?_
      refine vr (yr_move rfl rfl) ?_
      refine vr (yr_icmp rfl (.inr (.inr (.inl rfl))) rfl rfl) ?_
      refine VL.nil (VE.then_wp ?_)
      refine V.cond rfl (fun h5 => ?_) (fun h5 => ?_)
      · skip
        replace h5 := ic_lss h5
        refine V.skip (VE.then_wp (V.seq (V.block ?_)))
        refine V.draw [(0, 0), (1, 0), (2, 0), (3, 0), (4, 0), (5, 0), (6, 0), (7, 0), (8, 0), (9, 0), (10, 0), (11, 0), (12, 0), (13, 0), (14, 0), (15, 0), (16, 0), (17, 0), (18, 0), (19, 0)] mixed_Chol (by kernel_rfl) (by intro j o hj; simp at hj) ?_
        refine sr rfl (yr_move rfl rfl) ?_
        refine sr rfl (yr_move rfl rfl) ?_
        refine sr rfl (yr_move rfl rfl) ?_
        refine sr rfl (yr_move rfl rfl) ?_
        refine sr rfl (yr_mulN (j + 1 + c) n rfl rfl rfl (by omega) (by omega) (Nat.le_trans (mul_small (by omega) (by omega)) (by decide))) ?_
        refine sr rfl (yr_move rfl rfl) ?_
        refine sr rfl (yr_int rfl rfl rfl (.inl ⟨rfl, wrap_in (by omega)⟩)) ?_
        refine sq rfl (yq_idx (k := (((j + 1 + c) * n) + q)) rfl Try.underlying23 sz26_Chol rfl rfl zz0 zz3 zz10 (by omega)) ?_
        refine sq rfl (yq_loadF rfl fb26_Chol rfl zz0 (by omega)) ?_
        refine sr rfl (yr_move rfl rfl) ?_
        refine sr rfl (yr_move rfl rfl) ?_
        refine sr rfl (yr_move rfl rfl) ?_
        refine sr rfl (yr_mulN j n rfl rfl rfl (by omega) (by omega) (Nat.le_trans (mul_small (by omega) (by omega)) (by decide))) ?_
        refine sr rfl (yr_move rfl rfl) ?_
        refine sr rfl (yr_int rfl rfl rfl (.inl ⟨rfl, wrap_in (by omega)⟩)) ?_
        refine sq rfl (yq_idx (k := ((j * n) + q)) rfl Try.underlying23 sz26_Chol rfl rfl zz0 zz3 zz10 (by omega)) ?_
        refine sq rfl (yq_loadF rfl fb26_Chol rfl zz0 (by omega)) ?_
        refine sr rfl (yr_float rfl (.inr (.inr (.inl rfl))) rfl rfl) ?_
        refine sr rfl (yr_float rfl (.inr (.inl rfl)) rfl rfl) ?_
        refine sr rfl (yr_assign rfl rfl) ?_
        refine SW.done ?_
        refine VE.block_normal (VE.then_wp (V.region ?_))
        refine vr (yr_move rfl rfl) ?_
        refine vr (yr_int rfl rfl rfl (.inl ⟨rfl, wrap_in (by omega)⟩)) ?_
        refine vr (yr_assign rfl rfl) ?_
        refine VL.nil ?_
        refine VE.round (q + 1) ?_ ?_ ?_ ?_ ?_
        · exact (.cons rfl (.cons rfl .nil))
        · exact (.cons rfl (.cons rfl (.cons rfl (.cons rfl (.cons rfl .nil)))))
        · exact (fun w hw => hw)
        · omega
        · (try dsimp only); omega
      replace h5 := ic_lss' h5
      refine V.exit ?_
      refine VE.then_exit (VE.then_exit (VE.block_here (VE.then_wp (V.region ?_))))
      refine vr (yr_move rfl rfl) ?_
      refine vr (yr_move rfl rfl) ?_
      refine vr (yr_move rfl rfl) ?_
      refine vr (yr_mulN (j + 1 + c) n rfl rfl rfl (by omega) (by omega) (Nat.le_trans (mul_small (by omega) (by omega)) (by decide))) ?_
      refine vr (yr_move rfl rfl) ?_
      refine vr (yr_int rfl rfl rfl (.inl ⟨rfl, wrap_in (by omega)⟩)) ?_
      refine vr (yr_move rfl rfl) ?_
      refine vr (yr_move rfl rfl) ?_
      refine vr (yr_move rfl rfl) ?_
      refine vr (yr_move rfl rfl) ?_
      refine vr (yr_mulN j n rfl rfl rfl (by omega) (by omega) (Nat.le_trans (mul_small (by omega) (by omega)) (by decide))) ?_
      refine vr (yr_move rfl rfl) ?_
      refine vr (yr_int rfl rfl rfl (.inl ⟨rfl, wrap_in (by omega)⟩)) ?_
      refine vq (yq_idx (k := ((j * n) + j)) rfl Try.underlying23 sz26_Chol rfl rfl zz0 zz3 zz10 (by omega)) ?_
      refine vq (yq_loadF rfl fb26_Chol rfl zz0 (by omega)) ?_
      refine vr (yr_float rfl (.inr (.inr (.inr rfl))) rfl rfl) ?_
      refine vq (yq_idx (k := (((j + 1 + c) * n) + j)) rfl Try.underlying23 sz26_Chol rfl rfl zz0 zz3 zz10 (by omega)) ?_
      refine VL.s (.inl rfl) rfl (yc_store rfl sz26_Chol rfl rfl zz8 (.inl ⟨rfl, rfl⟩) rfl (by rw [fl_length]; omega) (by decide) (fl_set _ _ _)) ?_
      rintro ⟨⟩
      refine VL.nil (VE.block_normal (VE.then_wp (V.region ?_)))
      refine vr (yr_move rfl rfl) ?_
      refine vr (yr_int rfl rfl rfl (.inl ⟨rfl, wrap_in (by omega)⟩)) ?_
      refine vr (yr_assign rfl rfl) ?_
      refine VL.nil ?_
      refine VE.round (c + 1, m.set ((j + 1 + c) * n + j) (fop .quo .f32 (cX xs m n (j + 1 + c) j q) (m.getD (j * n + j) 0))) ?_ ?_ ?_ ?_ ?_
      · exact (.cons (congrArg (fun i => some (Value.int .i64 i)) (by omega)) .nil)
      · exact (.cons rfl (.cons rfl (.cons rfl (.cons rfl .nil))))
      · exact (fun w hw => hw)
      · obtain rfl : q = j := by omega
        refine ⟨by omega, by simp [hml], ?_⟩
        rw [cCol, ← hm]
      · (try dsimp only); omega
    replace h4 := ic_lss' h4
    refine V.exit ?_
    refine VE.then_exit (VE.then_exit (VE.block_here (VE.block_normal (VE.then_wp (V.region ?_)))))
    refine vr (yr_move rfl rfl) ?_
    refine vr (yr_int rfl rfl rfl (.inl ⟨rfl, wrap_in (by omega)⟩)) ?_
    refine vr (yr_assign rfl rfl) ?_
    refine VL.nil ?_
    refine VE.round (j + 1, m) ?_ ?_ ?_ ?_ ?_
    · exact (.cons rfl .nil)
    · exact (.cons rfl (.cons rfl (.cons rfl .nil)))
    · exact (fun w hw => hw)
    · refine ⟨by omega, hml, ?_, fun t ht => ?_⟩
      · rw [hm, chol, ← hl, show n - (j + 1) = c by omega]
      · rcases Nat.lt_or_ge t j with g | g
        · exact hc t g
        · obtain rfl : t = j := by omega
          obtain rfl : k = t := by omega
          rw [← hl]; assumption
    · (try dsimp only); omega
  replace h1 := ic_lss' h1
  refine V.exit ?_
  refine VE.then_exit (VE.then_exit (VE.block_here (VE.then_wp (V.seq (V.region ?_)))))
  refine vr (yr_move rfl rfl) ?_
  refine vr (yr_assign rfl rfl) ?_
  refine vr (yr_assign (u := .bool true) rfl rfl) ?_
  refine VL.nil (VE.then_wp (V.ret ?_))
  refine ret2 rfl rfl rfl (by nofun) (by nofun) (fun w1 hw => ?_)
  obtain rfl : n = j := by omega
  have hs : cholOk xs n = true := chol_yes hn0 hc
  have hso : cholOf xs n = l := by rw [cholOf_yes hs, hl]
  exact ⟨(some ⟨b16, 0, none⟩, n * n), by rw [hso, hs, hll], by rw [hso]; exact hw.out1⟩
theorem c_implChol [PhC] {w : World} {a : Option Addr} {c n : Nat} {xs : List Nat} (hA : Cl w a (fl xs)) (hxn : xs.length ≤ 1050000) (hn : n = side xs.length) : New Try.prog 25 [.slice a xs.length c] w (fun p : Option Addr × Nat => .tuple #[.slice p.1 (cholOf xs n).length p.2, .bool (cholOk xs n)]) (fun p => [⟨p.1, fl (cholOf xs n), p.2 * 1, 26⟩]) := by
  have hn8 : n ≤ 8 := by rw [hn]; exact side_le _
  have hnn : n * n ≤ 64 := Nat.mul_le_mul hn8 hn8
  have hix : ∀ {j k : Nat}, j < n → k < n → j * n + k < n * n := idx_lt
  refine New.enter Try.func25 rfl Try.ntmps25 (Nat.le_of_ble_eq_true rfl) ?_
  refine V.seq (V.region ?_)
  refine vr (yr_assign (u := .slice none 0 0) rfl rfl) ?_
  refine vr (yr_assign (u := .bool false) rfl rfl) ?_
  refine VL.nil (VE.then_wp (V.seq (V.region ?_)))
  refine vr (yr_move rfl rfl) ?_
  refine vq (yq_callf rfl known58_Chol (.cons rfl .nil) (fun w hw => (c_sideOf hn (by omega)))) ?_
  refine vr (yr_move rfl rfl) ?_
  refine vr (yr_extract rfl rfl rfl (by nofun)) ?_
  refine vr (yr_extract rfl rfl rfl (by nofun)) ?_
  refine vr (yr_assign rfl rfl) ?_
  refine vr (yr_assign rfl rfl) ?_
  refine VL.nil (VE.then_wp (V.seq (V.seq (V.region ?_))))
  refine vr (yr_move rfl rfl) ?_
  refine vr (yr_not rfl rfl) ?_
  refine VL.nil (VE.then_wp ?_)
  refine V.cond rfl (fun h1 => ?_) (fun h1 => ?_)
  · skip
    replace h1 := bnot_t h1
    replace h1 := of_decide_eq_false h1
    refine V.seq (V.region ?_)
    refine vr (yr_assign (u := .slice none 0 0) rfl rfl) ?_
    refine vr (yr_assign (u := .bool false) rfl rfl) ?_
    refine VL.nil (VE.then_wp (V.ret (VE.then_ret ?_)))
    refine ret2 rfl rfl rfl (by nofun) (by nofun) (fun w1 hw => ?_)
    have hs : cholOk xs n = false := chol_no0 (by omega)
    exact ⟨(none, 0), by rw [cholOf_no hs, hs]; rfl, hw.below, by rw [cholOf_no hs]; simp [fl, Ent.at], List.pairwise_singleton _ _⟩
  replace h1 := bnot_f h1
  replace h1 := of_decide_eq_true h1
  have hxs : xs.length = n * n := by rw [hn]; exact (side_mul (by rw [← hn]; omega)).symm
  refine V.skip (VE.then_wp (V.seq (V.region ?_)))
  refine vr (yr_move rfl rfl) ?_
  refine vr (yr_move rfl rfl) ?_
  refine vr (yr_int rfl rfl rfl (.inr (.inr ⟨rfl, wrap_in (by omega)⟩))) ?_
  refine VL.new1 (.inl rfl) rfl (by decide) (yn_makeSlicez 1 rfl rfl Try.underlying23 elt26_Chol rfl rfl rfl (by omega) (by omega)) ?_
  intro b23
  refine vr (yr_assign rfl rfl) ?_
  refine VL.nil (VE.then_wp (V.seq (V.seq (V.region ?_))))
  refine vr (yr_move rfl rfl) ?_
  refine vr (yr_move (u := .int .i64 0) rfl rfl) ?_
  refine VL.nil (VE.then_wp (V.block ?_))
  refine V.loopc (G := Nat × (List Nat)) [(0, _), (4, _), (6, _), (24, _)] (fun ⟨j, l⟩ => j ≤ n ∧ l.length = n * n ∧ l = chol xs n j ∧ ∀ t, t < j → fcmp .gtr .f32 (cS xs (chol xs n t) n t t) 0 = true) (fun ⟨j, l⟩ => [⟨some ⟨b23, 0, none⟩, fl l, n * n * 1, 26⟩]) (fun ⟨j, l⟩ => [(25, .int .i64 (j : Int))]) (fun ⟨j, l⟩ => n - j) (0, List.replicate (n * n) 0) (.cons rfl (.cons rfl (.cons rfl (.cons rfl .nil)))) (.cons rfl .nil) ?_ ?_ ?_
  · exact (fun w hw => by rw [fl_zeros] at hw; exact hw)
  · exact (by exact ⟨by omega, by simp, rfl, fun t h => by omega⟩)
  rintro ⟨j, l⟩ ⟨hj, hll, hl, hc⟩
  show V _ _ _ [⟨some ⟨b23, 0, none⟩, fl l, n * n * 1, 26⟩] ([(25, .int .i64 (j : Int))] ++ [(0, _), (4, _), (6, _), (24, _)]) _ _
  have hjj : j < n → j * n + j < n * n := fun h => hix h h
  refine V.seq (V.region ?_)
  refine vr (yr_icmp rfl (.inr (.inr (.inl rfl))) rfl rfl) ?_
  refine VL.nil (VE.then_wp (V.seq ?_))
  refine V.cond rfl (fun h2 => ?_) (fun h2 => ?_)
  · skip
    replace h2 := ic_lss h2
    refine V.skip (VE.then_wp (V.seq (V.block (V.seq (V.region ?_)))))
    refine vr (yr_move rfl rfl) ?_
    refine vr (yr_assign rfl rfl) ?_
    refine VL.nil (VE.then_wp (V.seq (V.region ?_)))
    refine vr (yr_move rfl rfl) ?_
    refine vr (yr_move rfl rfl) ?_
    refine vr (yr_move rfl rfl) ?_
    refine vr (yr_mulN j n rfl rfl rfl (by omega) (by omega) (Nat.le_trans (mul_small (by omega) (by omega)) (by decide))) ?_
    refine vr (yr_move rfl rfl) ?_
    refine vr (yr_int rfl rfl rfl (.inl ⟨rfl, wrap_in (by omega)⟩)) ?_
    refine vq (yq_idx (k := ((j * n) + j)) rfl Try.underlying23 sz26_Chol rfl rfl zz0 zz3 zz10 (by omega)) ?_
    refine vq (yq_loadF rfl fb26_Chol rfl zz0 (by omega)) ?_
    refine vr (yr_assign rfl rfl) ?_
    refine VL.nil (VE.then_wp (V.seq (V.seq (V.region ?_))))
    refine vr (yr_move rfl rfl) ?_
    refine vr (yr_move (u := .int .i64 0) rfl rfl) ?_
    refine VL.nil (VE.then_wp (V.block ?_))
    refine V.loops (G := Nat) [(0, _), (4, _), (6, _), (7, _), (24, _), (25, _), (36, _)] (fun (k : Nat) => k ≤ j) (fun (k : Nat) => [(8, .float .f32 (cS xs l n j k)), (37, .int .i64 (k : Int))]) (fun (k : Nat) => j - k) 0 (.cons rfl (.cons rfl (.cons rfl (.cons rfl (.cons rfl (.cons rfl (.cons rfl .nil))))))) (.cons rfl (.cons rfl .nil)) ?_ ?_
    · exact (by omega)
    rintro k hk
    show V _ _ _ _ ([(8, .float .f32 (cS xs l n j k)), (37, .int .i64 (k : Int))] ++ [(0, _), (4, _), (6, _), (7, _), (24, _), (25, _), (36, _)]) _ _
    have hjk : j < n → k < j → j * n + k < n * n := fun h g => hix h (by omega)
    refine V.seq (V.region ?_)
    refine vr (yr_icmp rfl (.inr (.inr (.inl rfl))) rfl rfl) ?_
    refine VL.nil (VE.then_wp (V.seq ?_))
    refine V.cond rfl (fun h3 => ?_) (fun h3 => ?_)
    · skip
      replace h3 := ic_lss h3
      refine V.skip (VE.then_wp (V.seq (V.block (V.seq (V.region ?_)))))
      refine vr (yr_move rfl rfl) ?_
      refine vr (yr_assign rfl rfl) ?_
      refine VL.nil (VE.then_wp ?_)
      refine V.draw [(0, 0), (1, 0), (2, 0), (3, 0), (4, 0), (5, 0), (6, 0), (7, 0), (8, 0), (9, 0), (10, 0), (11, 0), (12, 0), (13, 0), (14, 0), (15, 0), (16, 0), (17, 0), (18, 0), (19, 0)] mixed_Chol (by kernel_rfl) (by intro j o hj; simp at hj) ?_
      refine sr rfl (yr_move rfl rfl) ?_
      refine sr rfl (yr_move rfl rfl) ?_
      refine sr rfl (yr_move rfl rfl) ?_
      refine sr rfl (yr_move rfl rfl) ?_
      refine sr rfl (yr_mulN j n rfl rfl rfl (by omega) (by omega) (Nat.le_trans (mul_small (by omega) (by omega)) (by decide))) ?_
      refine sr rfl (yr_move rfl rfl) ?_
      refine sr rfl (yr_int rfl rfl rfl (.inl ⟨rfl, wrap_in (by omega)⟩)) ?_
      refine sq rfl (yq_idx (k := ((j * n) + k)) rfl Try.underlying23 sz26_Chol rfl rfl zz0 zz3 zz10 (by omega)) ?_
      refine sq rfl (yq_loadF rfl fb26_Chol rfl zz0 (by omega)) ?_
      refine sr rfl (yr_move rfl rfl) ?_
      refine sr rfl (yr_move rfl rfl) ?_
      refine sr rfl (yr_move rfl rfl) ?_
      refine sr rfl (yr_mulN j n rfl rfl rfl (by omega) (by omega) (Nat.le_trans (mul_small (by omega) (by omega)) (by decide))) ?_
      refine sr rfl (yr_move rfl rfl) ?_
      refine sr rfl (yr_int rfl rfl rfl (.inl ⟨rfl, wrap_in (by omega)⟩)) ?_
      refine sq rfl (yq_idx (k := ((j * n) + k)) rfl Try.underlying23 sz26_Chol rfl rfl zz0 zz3 zz10 (by omega)) ?_
      refine sq rfl (yq_loadF rfl fb26_Chol rfl zz0 (by omega)) ?_
      refine sr rfl (yr_float rfl (.inr (.inr (.inl rfl))) rfl rfl) ?_
      refine sr rfl (yr_float rfl (.inr (.inl rfl)) rfl rfl) ?_
      refine sr rfl (yr_assign rfl rfl) ?_
      refine SW.done ?_
      refine VE.block_normal (VE.then_wp (V.region ?_))
      refine vr (yr_int rfl rfl rfl (.inl ⟨rfl, wrap_in (by omega)⟩)) ?_
      refine vr (yr_move rfl rfl) ?_
      refine VL.nil ?_
      refine VE.round (k + 1) ?_ ?_ ?_ ?_ ?_
      · exact (.cons rfl (.cons rfl .nil))
      · exact (.cons rfl (.cons rfl (.cons rfl (.cons rfl (.cons rfl (.cons rfl (.cons rfl .nil)))))))
      · exact (fun w hw => hw)
      · omega
      · (try dsimp only); omega
    replace h3 := ic_lss' h3
    refine V.exit ?_
    refine VE.then_exit (VE.then_exit (VE.block_here (VE.then_wp (V.seq (V.seq (V.region ?_))))))
    refine vr (yr_move rfl rfl) ?_
    refine vr (yr_fcmp (b := 0) rfl (.inr (.inr (.inr (.inr (.inl rfl))))) rfl rfl) ?_
    refine vr (yr_not rfl rfl) ?_
    refine VL.nil (VE.then_wp ?_)
    refine V.cond rfl (fun h4 => ?_) (fun h4 => ?_)
    · skip
      replace h4 := bnot_t h4
      refine V.seq (V.region ?_)
      refine vr (yr_assign (u := .slice none 0 0) rfl rfl) ?_
      refine vr (yr_assign (u := .bool false) rfl rfl) ?_
      refine VL.nil (VE.then_wp (V.ret (VE.then_ret ?_)))
      refine VE.block_ret ?_
      refine VE.then_ret (VE.then_ret ?_)
      refine VE.block_ret ?_
      refine VE.then_ret ?_
      refine ret2 rfl rfl rfl (by nofun) (by nofun) (fun w1 hw => ?_)
      obtain rfl : k = j := by omega
      have hs : cholOk xs n = false := chol_no1 (j := k) (by omega) (by rw [← hl]; assumption)
      exact ⟨(none, 0), by rw [cholOf_no hs, hs]; rfl, hw.below, by rw [cholOf_no hs]; simp [fl, Ent.at], List.pairwise_singleton _ _⟩
    replace h4 := bnot_f h4
    refine V.skip (VE.then_wp (V.seq (V.region ?_)))
    refine vr (yr_move rfl rfl) ?_
    refine vr (yr_move rfl rfl) ?_
    refine vr (yr_move rfl rfl) ?_
    refine vr (yr_mulN j n rfl rfl rfl (by omega) (by omega) (Nat.le_trans (mul_small (by omega) (by omega)) (by decide))) ?_
    refine vr (yr_move rfl rfl) ?_
    refine vr (yr_int rfl rfl rfl (.inl ⟨rfl, wrap_in (by omega)⟩)) ?_
    refine vr (yr_move rfl rfl) ?_
    refine vq (yq_callf rfl known59_Chol (.cons rfl .nil) (fun w hw => c_RootNumber _)) ?_
    refine vq (yq_idx (k := ((j * n) + j)) rfl Try.underlying23 sz26_Chol rfl rfl zz0 zz3 zz10 (by omega)) ?_
    refine VL.s (.inl rfl) rfl (yc_store rfl sz26_Chol rfl rfl zz8 (.inl ⟨rfl, rfl⟩) rfl (by rw [fl_length]; omega) (by decide) (fl_set _ _ _)) ?_
    rintro ⟨⟩
    refine VL.nil (VE.then_wp (V.seq (V.region ?_)))
    refine vr (yr_move rfl rfl) ?_
    refine vr (yr_int rfl rfl rfl (.inl ⟨rfl, wrap_in (by omega)⟩)) ?_
    refine vr (yr_assign rfl rfl) ?_
    refine VL.nil (VE.then_wp (V.block ?_))
    refine V.loopc (G := Nat × (List Nat)) [(0, _), (4, _), (6, _), (7, _), (24, _), (25, _)] (fun ⟨c, m⟩ => j + 1 + c ≤ n ∧ m.length = n * n ∧ m = cCol xs n j (l.set (j * n + j) (sqrt32 (cS xs l n j j))) c) (fun ⟨c, m⟩ => [⟨some ⟨b23, 0, none⟩, fl m, n * n * 1, 26⟩]) (fun ⟨c, m⟩ => [(10, .int .i64 ((j + 1 + c : Nat) : Int))]) (fun ⟨c, m⟩ => n - (j + 1 + c)) (0, l.set (j * n + j) (sqrt32 (cS xs l n j k))) (.cons rfl (.cons rfl (.cons rfl (.cons rfl (.cons rfl (.cons rfl .nil)))))) (.cons (congrArg (fun i => some (Value.int .i64 i)) (by omega)) .nil) ?_ ?_ ?_
    · exact (fun w hw => hw)
    · exact (by obtain rfl : k = j := (by omega); exact ⟨by omega, by simp [hll], rfl⟩)
    rintro ⟨c, m⟩ ⟨hcn, hml, hm⟩
    show V _ _ _ [⟨some ⟨b23, 0, none⟩, fl m, n * n * 1, 26⟩] ([(10, .int .i64 ((j + 1 + c : Nat) : Int))] ++ [(0, _), (4, _), (6, _), (7, _), (24, _), (25, _)]) _ _
    have hij : j + 1 + c < n → (j + 1 + c) * n + j < n * n := fun h => hix h (by omega)
    refine V.seq (V.seq (V.region ?_))
    refine vr (yr_move rfl rfl) ?_
    refine vr (yr_move rfl rfl) ?_
    refine vr (yr_icmp rfl (.inr (.inr (.inl rfl))) rfl rfl) ?_
    refine VL.nil (VE.then_wp ?_)
    refine V.cond rfl (fun h5 => ?_) (fun h5 => ?_)
    · skip
      replace h5 := ic_lss h5
      refine V.skip (VE.then_wp (V.seq (V.block (V.seq (V.region ?_)))))
      refine vr (yr_move rfl rfl) ?_
      refine vr (yr_move rfl rfl) ?_
      refine vr (yr_move rfl rfl) ?_
      refine vr (yr_mulN (j + 1 + c) n rfl rfl rfl (by omega) (by omega) (Nat.le_trans (mul_small (by omega) (by omega)) (by decide))) ?_
      refine vr (yr_move rfl rfl) ?_
      refine vr (yr_int rfl rfl rfl (.inl ⟨rfl, wrap_in (by omega)⟩)) ?_
      refine vq (yq_idx (k := (((j + 1 + c) * n) + j)) rfl Try.underlying23 sz26_Chol rfl rfl zz0 zz3 zz10 (by omega)) ?_
      refine vq (yq_loadF rfl fb26_Chol rfl zz0 (by omega)) ?_
      refine vr (yr_assign rfl rfl) ?_
      refine VL.nil (VE.then_wp (V.seq (V.seq (V.region ?_))))
      refine vr (yr_move rfl rfl) ?_
      refine vr (yr_move (u := .int .i64 0) rfl rfl) ?_
      refine VL.nil (VE.then_wp (V.block ?_))
      refine V.loops (G := Nat) [(0, _), (4, _), (6, _), (7, _), (10, _), (24, _), (25, _), (87, _)] (fun (q : Nat) => q ≤ j) (fun (q : Nat) => [(11, .float .f32 (cX xs m n (j + 1 + c) j q)), (88, .int .i64 (q : Int))]) (fun (q : Nat) => j - q) 0 (.cons rfl (.cons rfl (.cons rfl (.cons rfl (.cons rfl (.cons rfl (.cons rfl (.cons rfl .nil)))))))) (.cons rfl (.cons rfl .nil)) ?_ ?_
      · exact (by omega)
      rintro q hq
      show V _ _ _ _ ([(11, .float .f32 (cX xs m n (j + 1 + c) j q)), (88, .int .i64 (q : Int))] ++ [(0, _), (4, _), (6, _), (7, _), (10, _), (24, _), (25, _), (87, _)]) _ _
      have hjq : j < n → q < j → j * n + q < n * n := fun h g => hix h (by omega)
      have hiq : j + 1 + c < n → q < j → (j + 1 + c) * n + q < n * n := fun h g => hix h (by omega)
      refine V.seq (V.region ?_)
      refine vr (yr_icmp rfl (.inr (.inr (.inl rfl))) rfl rfl) ?_
      refine VL.nil (VE.then_wp (V.seq ?_))
      refine V.cond rfl (fun h6 => ?_) (fun h6 => ?_)
      · skip
        replace h6 := ic_lss h6
        refine V.skip (VE.then_wp (V.seq (V.block (V.seq (V.region ?_)))))
        refine vr (yr_move rfl rfl) ?_
        refine vr (yr_assign rfl rfl) ?_
        refine VL.nil (VE.then_wp ?_)
        refine V.draw [(0, 0), (1, 0), (2, 0), (3, 0), (4, 0), (5, 0), (6, 0), (7, 0), (8, 0), (9, 0), (10, 0), (11, 0), (12, 0), (13, 0), (14, 0), (15, 0), (16, 0), (17, 0), (18, 0), (19, 0)] mixed_Chol (by kernel_rfl) (by intro j o hj; simp at hj) ?_
        refine sr rfl (yr_move rfl rfl) ?_
        refine sr rfl (yr_move rfl rfl) ?_
        refine sr rfl (yr_move rfl rfl) ?_
        refine sr rfl (yr_move rfl rfl) ?_
        refine sr rfl (yr_mulN (j + 1 + c) n rfl rfl rfl (by omega) (by omega) (Nat.le_trans (mul_small (by omega) (by omega)) (by decide))) ?_
        refine sr rfl (yr_move rfl rfl) ?_
        refine sr rfl (yr_int rfl rfl rfl (.inl ⟨rfl, wrap_in (by omega)⟩)) ?_
        refine sq rfl (yq_idx (k := (((j + 1 + c) * n) + q)) rfl Try.underlying23 sz26_Chol rfl rfl zz0 zz3 zz10 (by omega)) ?_
        refine sq rfl (yq_loadF rfl fb26_Chol rfl zz0 (by omega)) ?_
        refine sr rfl (yr_move rfl rfl) ?_
        refine sr rfl (yr_move rfl rfl) ?_
        refine sr rfl (yr_move rfl rfl) ?_
        refine sr rfl (yr_mulN j n rfl rfl rfl (by omega) (by omega) (Nat.le_trans (mul_small (by omega) (by omega)) (by decide))) ?_
        refine sr rfl (yr_move rfl rfl) ?_
        refine sr rfl (yr_int rfl rfl rfl (.inl ⟨rfl, wrap_in (by omega)⟩)) ?_
        refine sq rfl (yq_idx (k := ((j * n) + q)) rfl Try.underlying23 sz26_Chol rfl rfl zz0 zz3 zz10 (by omega)) ?_
        refine sq rfl (yq_loadF rfl fb26_Chol rfl zz0 (by omega)) ?_
        refine sr rfl (yr_float rfl (.inr (.inr (.inl rfl))) rfl rfl) ?_
        refine sr rfl (yr_float rfl (.inr (.inl rfl)) rfl rfl) ?_
        refine sr rfl (yr_assign rfl rfl) ?_
        refine SW.done ?_
        refine VE.block_normal (VE.then_wp (V.region ?_))
        refine vr (yr_int rfl rfl rfl (.inl ⟨rfl, wrap_in (by omega)⟩)) ?_
        refine vr (yr_move rfl rfl) ?_
        refine VL.nil ?_
        refine VE.round (q + 1) ?_ ?_ ?_ ?_ ?_
        · exact (.cons rfl (.cons rfl .nil))
        · exact (.cons rfl (.cons rfl (.cons rfl (.cons rfl (.cons rfl (.cons rfl (.cons rfl (.cons rfl .nil))))))))
        · exact (fun w hw => hw)
        · omega
        · (try dsimp only); omega
      replace h6 := ic_lss' h6
      refine V.exit ?_
      refine VE.then_exit (VE.then_exit (VE.block_here (VE.then_wp (V.region ?_))))
      refine vr (yr_move rfl rfl) ?_
      refine vr (yr_move rfl rfl) ?_
      refine vr (yr_move rfl rfl) ?_
      refine vr (yr_mulN (j + 1 + c) n rfl rfl rfl (by omega) (by omega) (Nat.le_trans (mul_small (by omega) (by omega)) (by decide))) ?_
      refine vr (yr_move rfl rfl) ?_
      refine vr (yr_int rfl rfl rfl (.inl ⟨rfl, wrap_in (by omega)⟩)) ?_
      refine vr (yr_move rfl rfl) ?_
      refine vr (yr_move rfl rfl) ?_
      refine vr (yr_move rfl rfl) ?_
      refine vr (yr_move rfl rfl) ?_
      refine vr (yr_mulN j n rfl rfl rfl (by omega) (by omega) (Nat.le_trans (mul_small (by omega) (by omega)) (by decide))) ?_
      refine vr (yr_move rfl rfl) ?_
      refine vr (yr_int rfl rfl rfl (.inl ⟨rfl, wrap_in (by omega)⟩)) ?_
      refine vq (yq_idx (k := ((j * n) + j)) rfl Try.underlying23 sz26_Chol rfl rfl zz0 zz3 zz10 (by omega)) ?_
      refine vq (yq_loadF rfl fb26_Chol rfl zz0 (by omega)) ?_
      refine vr (yr_float rfl (.inr (.inr (.inr rfl))) rfl rfl) ?_
      refine vq (yq_idx (k := (((j + 1 + c) * n) + j)) rfl Try.underlying23 sz26_Chol rfl rfl zz0 zz3 zz10 (by omega)) ?_
      refine VL.s (.inl rfl) rfl (yc_store rfl sz26_Chol rfl rfl zz8 (.inl ⟨rfl, rfl⟩) rfl (by rw [fl_length]; omega) (by decide) (fl_set _ _ _)) ?_
      rintro ⟨⟩
      refine VL.nil (VE.block_normal (VE.then_wp (V.region ?_)))
      refine vr (yr_move rfl rfl) ?_
      refine vr (yr_int rfl rfl rfl (.inl ⟨rfl, wrap_in (by omega)⟩)) ?_
      refine vr (yr_assign rfl rfl) ?_
      refine VL.nil ?_
      refine VE.round (c + 1, m.set ((j + 1 + c) * n + j) (fop .quo .f32 (cX xs m n (j + 1 + c) j q) (m.getD (j * n + j) 0))) ?_ ?_ ?_ ?_ ?_
      · exact (.cons (congrArg (fun i => some (Value.int .i64 i)) (by omega)) .nil)
      · exact (.cons rfl (.cons rfl (.cons rfl (.cons rfl (.cons rfl (.cons rfl .nil))))))
      · exact (fun w hw => hw)
      · obtain rfl : q = j := by omega
        refine ⟨by omega, by simp [hml], ?_⟩
        rw [cCol, ← hm]
      · (try dsimp only); omega
    replace h5 := ic_lss' h5
    refine V.exit ?_
    refine VE.then_exit (VE.then_exit (VE.block_here (VE.block_normal (VE.then_wp (V.region ?_)))))
    refine vr (yr_int rfl rfl rfl (.inl ⟨rfl, wrap_in (by omega)⟩)) ?_
    refine vr (yr_move rfl rfl) ?_
    refine VL.nil ?_
    refine VE.round (j + 1, m) ?_ ?_ ?_ ?_ ?_
    · exact (.cons rfl .nil)
    · exact (.cons rfl (.cons rfl (.cons rfl (.cons rfl .nil))))
    · exact (fun w hw => hw)
    · refine ⟨by omega, hml, ?_, fun t ht => ?_⟩
      · rw [hm, chol, ← hl, show n - (j + 1) = c by omega]
      · rcases Nat.lt_or_ge t j with g | g
        · exact hc t g
        · obtain rfl : t = j := by omega
          obtain rfl : k = t := by omega
          rw [← hl]; assumption
    · (try dsimp only); omega
  replace h2 := ic_lss' h2
  refine V.exit ?_
  refine VE.then_exit (VE.then_exit (VE.block_here (VE.then_wp (V.seq (V.region ?_)))))
  refine vr (yr_move rfl rfl) ?_
  refine vr (yr_assign rfl rfl) ?_
  refine vr (yr_assign (u := .bool true) rfl rfl) ?_
  refine VL.nil (VE.then_wp (V.ret ?_))
  refine ret2 rfl rfl rfl (by nofun) (by nofun) (fun w1 hw => ?_)
  obtain rfl : n = j := by omega
  have hs : cholOk xs n = true := chol_yes (by omega) hc
  have hso : cholOf xs n = l := by rw [cholOf_yes hs, hl]
  exact ⟨(some ⟨b23, 0, none⟩, n * n), by rw [hso, hs, hll], by rw [hso]; exact hw.out1⟩
end Go.Proofs.Ytgeflnjjppgooaa.Q

namespace Go.Proofs.Ytgeflnjjppgooaa
open Go.RowKit
noncomputable def ftOk (xss : List (List Nat)) (ws gs : List Nat) (x : Nat) : Bool :=
  normOk xss ws gs x && (cholOk (normA xss gs x) (xss.getD 0 []).length && solveOk (cholOf (normA xss gs x) (xss.getD 0 []).length) (normB xss ws gs))
noncomputable def ftD (xss : List (List Nat)) (ws gs : List Nat) (x : Nat) : List Nat := if ftOk xss ws gs x then solveOf (cholOf (normA xss gs x) (xss.getD 0 []).length) (normB xss ws gs) else []
section
variable {xss : List (List Nat)} {ws gs : List Nat} {x : Nat}
theorem ft_no (h : ftOk xss ws gs x = false) : ftD xss ws gs x = [] := by simp [ftD, h]
theorem ft_no1 (h : normOk xss ws gs x = false) : ftOk xss ws gs x = false := by simp [ftOk, h]
theorem ft_no2 (h : cholOk (normA xss gs x) (xss.getD 0 []).length = false) : ftOk xss ws gs x = false := by simp only [ftOk, h, Bool.false_and, Bool.and_false]
theorem ft_is (h1 : normOk xss ws gs x = true) (h2 : cholOk (normA xss gs x) (xss.getD 0 []).length = true) :
    ftOk xss ws gs x = solveOk (cholOf (normA xss gs x) (xss.getD 0 []).length) (normB xss ws gs) ∧ ftD xss ws gs x = solveOf (cholOf (normA xss gs x) (xss.getD 0 []).length) (normB xss ws gs) := by
  have e : ftOk xss ws gs x = solveOk (cholOf (normA xss gs x) (xss.getD 0 []).length) (normB xss ws gs) := by simp only [ftOk, h1, h2, Bool.true_and]
  refine ⟨e, ?_⟩
  unfold ftD
  rw [e]
  cases hs : solveOk (cholOf (normA xss gs x) (xss.getD 0 []).length) (normB xss ws gs) with
  | true => rfl
  | false => rw [solveOf_no hs]; rfl
theorem side_norm (h : normOk xss ws gs x = true) : (xss.getD 0 []).length = side (normA xss gs x).length := by
  have hv := ok_valid h
  rw [normA_length]
  exact (side_of hv.2.2.2.2.2.2.1 hv.2.2.2.2.2.2.2 rfl).symm
theorem ad_len (h : normOk xss ws gs x = true) : (normAD xss ws gs x).length ≤ 64 ∧ (normBD xss ws gs x).length ≤ 8 ∧ (xss.getD 0 []).length = side (normAD xss ws gs x).length := by
  have hv := ok_valid h
  have h8 := hv.2.2.2.2.2.2.2
  rw [normAD_yes h, normBD_yes h]
  refine ⟨?_, by rw [normB_length]; exact h8, side_norm h⟩
  rw [normA_length]; exact Nat.mul_le_mul h8 h8
theorem ft_no3 (h1 : normOk xss ws gs x = true) (h2 : cholOk (normAD xss ws gs x) (xss.getD 0 []).length = false) : ftOk xss ws gs x = false := by rw [normAD_yes h1] at h2; exact ft_no2 h2
theorem ft_is3 (h1 : normOk xss ws gs x = true) (h2 : cholOk (normAD xss ws gs x) (xss.getD 0 []).length = true) :
    ftOk xss ws gs x = solveOk (cholOf (normAD xss ws gs x) (xss.getD 0 []).length) (normBD xss ws gs x) ∧ ftD xss ws gs x = solveOf (cholOf (normAD xss ws gs x) (xss.getD 0 []).length) (normBD xss ws gs x) := by
  rw [normAD_yes h1] at h2 ⊢; rw [normBD_yes h1]; exact ft_is h1 h2
theorem can_ftD (xss : List (List Nat)) (ws gs : List Nat) (x : Nat) : ∀ y ∈ ftD xss ws gs x, Can .f32 y := by
  unfold ftD; split
  · exact can_solveOf (nmB_cn _ _ _ _ _)
  · intro y hy; cases hy
end
end Go.Proofs.Ytgeflnjjppgooaa

namespace Go.Proofs.Ytgeflnjjppgooaa.Q
open Go.RowKit
set_option linter.unusedVariables false
set_option linter.unusedSimpArgs false
set_option maxRecDepth 20000
set_option maxHeartbeats 800000
attribute [local irreducible] wqList Wq
theorem known33_Fit : Known Try.prog 33 := Known.mk' Try.func33 (by kernel_rfl)
theorem known34_Fit : Known Try.prog 34 := Known.mk' Try.func34 (by kernel_rfl)
theorem known35_Fit : Known Try.prog 35 := Known.mk' Try.func35 (by kernel_rfl)
theorem known50_Fit : Known Try.prog 50 := Known.mk' Try.func50 (by kernel_rfl)
theorem known51_Fit : Known Try.prog 51 := Known.mk' Try.func51 (by kernel_rfl)
theorem sz30_Fit : (Try.prog.info? 30).map (·.size) = some 3 := by kernel_rfl
theorem known10_Fit : Known Try.prog 10 := Known.mk' Try.func10 (by kernel_rfl)
theorem known25_Fit : Known Try.prog 25 := Known.mk' Try.func25 (by kernel_rfl)
theorem known26_Fit : Known Try.prog 26 := Known.mk' Try.func26 (by kernel_rfl)
theorem c_specFit [PhC] {w : World} {a a1 a2 : Option Addr} {c c1 c2 : Nat} {f : Nat → Option Addr × Nat} {xss : List (List Nat)} {ws gs : List Nat} {x : Nat} (hA : Cl w a (hd f xss)) (hR : Rws w f xss) (hW : Cl w a1 (fl ws)) (hG : Cl w a2 (fl gs)) (hsz : bulk xss + ws.length + gs.length ≤ 1050000) : New Try.prog 18 [.agg #[.slice a xss.length c, .slice a1 ws.length c1, .slice a2 gs.length c2], .float .f32 x] w (fun p : Option Addr × Nat => .tuple #[.slice p.1 (ftD xss ws gs x).length p.2, .bool (ftOk xss ws gs x)]) (fun p => [⟨p.1, fl (ftD xss ws gs x), p.2 * 1, 26⟩]) := by
  refine New.enter Try.func18 rfl Try.ntmps18 (Nat.le_of_ble_eq_true rfl) ?_
  have hr : ∀ i, i < xss.length → (xss.getD i []).length ≤ 1050000 := fun i hi => by have := bulk_row hi; omega
  have hxl : xss.length ≤ bulk xss := by unfold bulk; omega
  refine V.seq (V.region ?_)
  refine VL.new1 (.inl rfl) rfl (by decide) (yn_box rfl rfl (.inr ⟨rfl, rfl⟩)) ?_
  intro b2
  refine vr (yr_assign (u := .slice none 0 0) rfl rfl) ?_
  refine vr (yr_assign (u := .bool false) rfl rfl) ?_
  refine VL.nil (VE.then_wp (V.seq (V.seq (V.region ?_))))
  refine vq (yq_callf rfl known33_Fit (.cons rfl .nil) (fun w hw => (c_l07Is zz1 zz1 zz7 zz1 zz1 (by omega)))) ?_
  refine vr (yr_not rfl rfl) ?_
  refine vr (yr_move rfl rfl) ?_
  refine VX.split 12 _ rfl (fun h1 => ?_) (fun h1 => ?_)
  · skip
    replace h1 := bnot_t h1
    refine vn ?_
    refine vn ?_
    refine vn ?_
    refine vr (yr_pick_t (u := .bool true) rfl rfl rfl) ?_
    refine VL.nil (VE.then_wp ?_)
    refine V.condT rfl ?_
    refine V.seq (V.region ?_)
    refine vr (yr_assign (u := .slice none 0 0) rfl rfl) ?_
    refine vr (yr_assign (u := .bool false) rfl rfl) ?_
    refine VL.nil (VE.then_wp (V.ret (VE.then_ret ?_)))
    refine ret2 rfl rfl rfl (by nofun) (by nofun) (fun w1 hw => ?_)
    have hf : ftOk xss ws gs x = false := ft_no1 (by first | (simp only [normOk, *, Bool.false_and, Bool.and_false, Bool.and_true]; done) | (simp only [normOk, least, *, Bool.false_and, Bool.and_false, Bool.and_true]; done))
    exact ⟨(none, 0), by rw [ft_no hf, hf]; rfl, hw.below, by rw [ft_no hf]; simp [fl, Ent.at], List.pairwise_singleton _ _⟩
  replace h1 := bnot_f h1
  refine VL.r (.inr ⟨_, _, _, rfl, rfl, rfl⟩) rfl (by decide) (yr_move rfl rfl) ?_
  refine VL.q (.inr ⟨_, _, _, rfl, rfl, rfl⟩) rfl (by decide) (yq_callf rfl known34_Fit (.cons rfl .nil) (fun w hw => c_l03Least _)) ?_
  refine VL.r (.inr ⟨_, _, _, rfl, rfl, rfl⟩) rfl (by decide) (yr_not rfl rfl) ?_
  refine vr (yr_pick_f rfl rfl rfl) ?_
  refine VL.nil (VE.then_wp ?_)
  refine V.cond rfl (fun h3 => ?_) (fun h3 => ?_)
  · skip
    replace h3 := bnot_t h3
    refine V.seq (V.region ?_)
    refine vr (yr_assign (u := .slice none 0 0) rfl rfl) ?_
    refine vr (yr_assign (u := .bool false) rfl rfl) ?_
    refine VL.nil (VE.then_wp (V.ret (VE.then_ret ?_)))
    refine ret2 rfl rfl rfl (by nofun) (by nofun) (fun w1 hw => ?_)
    have hf : ftOk xss ws gs x = false := ft_no1 (by first | (simp only [normOk, *, Bool.false_and, Bool.and_false, Bool.and_true]; done) | (simp only [normOk, least, *, Bool.false_and, Bool.and_false, Bool.and_true]; done))
    exact ⟨(none, 0), by rw [ft_no hf, hf]; rfl, hw.below, by rw [ft_no hf]; simp [fl, Ent.at], List.pairwise_singleton _ _⟩
  replace h3 := bnot_f h3
  have hs : normOk xss ws gs x = true := by first | (simp only [normOk, *, Bool.false_and, Bool.and_false, Bool.and_true]; done) | (simp only [normOk, least, *, Bool.false_and, Bool.and_false, Bool.and_true]; done)
  have hval := ok_valid hs
  have hlA : (normA xss gs x).length = (xss.getD 0 []).length * (xss.getD 0 []).length := normA_length _ _ _
  have hlB : (normB xss ws gs).length = (xss.getD 0 []).length := normB_length _ _ _
  have hn8 : (xss.getD 0 []).length ≤ 8 := hval.2.2.2.2.2.2.2
  have hn1 : 1 ≤ (xss.getD 0 []).length := hval.2.2.2.2.2.2.1
  have hnn : (xss.getD 0 []).length * (xss.getD 0 []).length ≤ 64 := Nat.mul_le_mul hn8 hn8
  have hcl := length_cholOf (a := normA xss gs x) hn8
  refine V.skip (VE.then_wp (V.seq (V.region ?_)))
  refine vr (yr_move rfl rfl) ?_
  refine VL.new (.inl rfl) rfl (by decide) (yn_callf rfl known35_Fit (.cons rfl (.cons rfl .nil)) (fun w hw => (c_l07Normal zz1 zz1 zz7 zz1 zz1 (by omega) (by assumption)))) ?_
  rintro ⟨b19, e19⟩
  refine vr (yr_move rfl rfl) ?_
  refine vr (yr_extract rfl rfl rfl (by nofun)) ?_
  refine vr (yr_extract rfl rfl rfl (by nofun)) ?_
  refine vr (yr_assign rfl rfl) ?_
  refine vr (yr_assign rfl rfl) ?_
  refine VL.nil (VE.then_wp (V.seq (V.region ?_)))
  refine vr (yr_move rfl rfl) ?_
  refine vr (yr_move rfl rfl) ?_
  refine vr (yr_len rfl Try.underlying23 rfl) ?_
  refine VL.new1 (.inl rfl) rfl (by decide) (yn_callf rfl known50_Fit (.cons rfl (.cons rfl .nil)) (fun w hw => (by have h9 := c_l07Cholesky (a := some ⟨b19, 0, none⟩) (c := (xss.getD 0 []).length * (xss.getD 0 []).length) (xs := normA xss gs x) (n := (xss.getD 0 []).length) (w := w) zz1 hlA hn8 (by omega); rw [hlA] at h9; exact h9))) ?_
  rintro ⟨a26, c26⟩
  refine vr (yr_move rfl rfl) ?_
  refine vr (yr_extract rfl rfl rfl (by nofun)) ?_
  refine vr (yr_extract rfl rfl rfl (by nofun)) ?_
  refine vr (yr_assign rfl rfl) ?_
  refine vr (yr_assign rfl rfl) ?_
  refine VL.nil (VE.then_wp (V.seq (V.seq (V.region ?_))))
  refine vr (yr_move rfl rfl) ?_
  refine vr (yr_not rfl rfl) ?_
  refine VL.nil (VE.then_wp ?_)
  refine V.cond rfl (fun h4 => ?_) (fun h4 => ?_)
  · skip
    replace h4 := bnot_t h4
    refine V.seq (V.region ?_)
    refine vr (yr_assign (u := .slice none 0 0) rfl rfl) ?_
    refine vr (yr_assign (u := .bool false) rfl rfl) ?_
    refine VL.nil (VE.then_wp (V.ret (VE.then_ret ?_)))
    refine ret2 rfl rfl rfl (by nofun) (by nofun) (fun w1 hw => ?_)
    have hf : ftOk xss ws gs x = false := ft_no2 (by assumption)
    exact ⟨(none, 0), by rw [ft_no hf, hf]; rfl, hw.below, by rw [ft_no hf]; simp [fl, Ent.at], List.pairwise_singleton _ _⟩
  replace h4 := bnot_f h4
  refine V.skip (VE.then_wp (V.seq (V.region ?_)))
  refine vr (yr_move rfl rfl) ?_
  refine vr (yr_move rfl rfl) ?_
  refine VL.new1 (.inl rfl) rfl (by decide) (yn_callf rfl known51_Fit (.cons rfl (.cons rfl .nil)) (fun w hw => (by have h9 := c_specSolve (a := a26) (c := c26) (b := some ⟨e19, 0, none⟩) (d := (xss.getD 0 []).length) (l := cholOf (normA xss gs x) ((xss.getD 0 []).length)) (bs := normB xss ws gs) (w := w) zz1 zz1 (by omega) (by omega); rw [hlB] at h9; exact h9))) ?_
  rintro ⟨a33, c33⟩
  refine vr (yr_extract rfl rfl rfl (by nofun)) ?_
  refine vr (yr_extract rfl rfl rfl (by nofun)) ?_
  refine vr (yr_assign rfl rfl) ?_
  refine vr (yr_assign rfl rfl) ?_
  refine VL.nil (VE.then_wp (V.ret ?_))
  refine ret2 rfl rfl rfl (by nofun) (by nofun) (fun w1 hw => ?_)
  obtain ⟨q1, q2⟩ := ft_is hs (by assumption)
  exact ⟨(a33, c33), by rw [q1, q2] <;> rfl, by rw [q2]; exact hw.out1⟩
theorem c_implFit {w : World} {a a1 a2 : Option Addr} {c c1 c2 : Nat} {f : Nat → Option Addr × Nat} {xss : List (List Nat)} {ws gs : List Nat} {x : Nat} (hA : Cl w a (hd f xss)) (hR : Rws w f xss) (hW : Cl w a1 (fl ws)) (hG : Cl w a2 (fl gs)) (hsz : bulk xss + ws.length + gs.length ≤ 1050000) : New Try.prog 19 [.agg #[.slice a xss.length c, .slice a1 ws.length c1, .slice a2 gs.length c2], .float .f32 x] w (fun p : Option Addr × Nat => .tuple #[.slice p.1 (ftD xss ws gs x).length p.2, .bool (ftOk xss ws gs x)]) (fun p => [⟨p.1, fl (ftD xss ws gs x), p.2 * 1, 26⟩]) := by
  refine New.enter Try.func19 rfl Try.ntmps19 (Nat.le_of_ble_eq_true rfl) ?_
  have hr : ∀ i, i < xss.length → (xss.getD i []).length ≤ 1050000 := fun i hi => by have := bulk_row hi; omega
  have hxl : xss.length ≤ bulk xss := by unfold bulk; omega
  refine V.seq (V.region ?_)
  refine VL.new1 (.inl rfl) rfl (by decide) (yn_box rfl rfl (.inr ⟨rfl, rfl⟩)) ?_
  intro b2
  refine vr (yr_assign (u := .slice none 0 0) rfl rfl) ?_
  refine vr (yr_assign (u := .bool false) rfl rfl) ?_
  refine VL.nil (VE.then_wp (V.seq (V.region ?_)))
  refine vq (yq_loadS rfl Try.underlying30 sz30_Fit rfl zz0 rfl rfl rfl) ?_
  refine vr (yr_move rfl rfl) ?_
  refine VL.new (.inl rfl) rfl (by decide) (yn_callf rfl known10_Fit (.cons rfl (.cons rfl .nil)) (fun w hw => (c_implNorm zz1 zz7 zz1 zz1 (by omega)))) ?_
  rintro ⟨⟨a13, c13⟩, ⟨d13, e13⟩⟩
  refine vr (yr_move rfl rfl) ?_
  refine vr (yr_extract rfl rfl rfl (by nofun)) ?_
  refine vr (yr_extract rfl rfl rfl (by nofun)) ?_
  refine vr (yr_extract rfl rfl rfl (by nofun)) ?_
  refine vr (yr_assign rfl rfl) ?_
  refine vr (yr_assign rfl rfl) ?_
  refine vr (yr_assign rfl rfl) ?_
  refine VL.nil (VE.then_wp (V.seq (V.seq (V.region ?_))))
  refine vr (yr_move rfl rfl) ?_
  refine vr (yr_not rfl rfl) ?_
  refine VL.nil (VE.then_wp ?_)
  refine V.cond rfl (fun h1 => ?_) (fun h1 => ?_)
  · skip
    replace h1 := bnot_t h1
    refine V.seq (V.region ?_)
    refine vr (yr_assign (u := .slice none 0 0) rfl rfl) ?_
    refine vr (yr_assign (u := .bool false) rfl rfl) ?_
    refine VL.nil (VE.then_wp (V.ret (VE.then_ret ?_)))
    refine ret2 rfl rfl rfl (by nofun) (by nofun) (fun w1 hw => ?_)
    have hf : ftOk xss ws gs x = false := ft_no1 (by assumption)
    exact ⟨(none, 0), by rw [ft_no hf, hf]; rfl, hw.below, by rw [ft_no hf]; simp [fl, Ent.at], List.pairwise_singleton _ _⟩
  replace h1 := bnot_f h1
  have hs := h1
  obtain ⟨hlA, hlB, hnq⟩ := ad_len hs
  have hn8 : (xss.getD 0 []).length ≤ 8 := (ok_valid hs).2.2.2.2.2.2.2
  have hcl := length_cholOf (a := normAD xss ws gs x) hn8
  refine V.skip (VE.then_wp (V.seq (V.region ?_)))
  refine vr (yr_move rfl rfl) ?_
  refine VL.new1 (.inl rfl) rfl (by decide) (yn_callf rfl known25_Fit (.cons rfl .nil) (fun w hw => (c_implChol (xs := normAD xss ws gs x) zz1 (by omega) hnq))) ?_
  rintro ⟨a21, c21⟩
  refine vr (yr_move rfl rfl) ?_
  refine vr (yr_extract rfl rfl rfl (by nofun)) ?_
  refine vr (yr_extract rfl rfl rfl (by nofun)) ?_
  refine vr (yr_assign rfl rfl) ?_
  refine vr (yr_assign rfl rfl) ?_
  refine VL.nil (VE.then_wp (V.seq (V.seq (V.region ?_))))
  refine vr (yr_move rfl rfl) ?_
  refine vr (yr_not rfl rfl) ?_
  refine VL.nil (VE.then_wp ?_)
  refine V.cond rfl (fun h2 => ?_) (fun h2 => ?_)
  · skip
    replace h2 := bnot_t h2
    refine V.seq (V.region ?_)
    refine vr (yr_assign (u := .slice none 0 0) rfl rfl) ?_
    refine vr (yr_assign (u := .bool false) rfl rfl) ?_
    refine VL.nil (VE.then_wp (V.ret (VE.then_ret ?_)))
    refine ret2 rfl rfl rfl (by nofun) (by nofun) (fun w1 hw => ?_)
    have hf : ftOk xss ws gs x = false := ft_no3 hs (by assumption)
    exact ⟨(none, 0), by rw [ft_no hf, hf]; rfl, hw.below, by rw [ft_no hf]; simp [fl, Ent.at], List.pairwise_singleton _ _⟩
  replace h2 := bnot_f h2
  refine V.skip (VE.then_wp (V.seq (V.region ?_)))
  refine vr (yr_move rfl rfl) ?_
  refine vr (yr_move rfl rfl) ?_
  refine VL.new1 (.inl rfl) rfl (by decide) (yn_callf rfl known26_Fit (.cons rfl (.cons rfl .nil)) (fun w hw => (c_implSolve (l := cholOf (normAD xss ws gs x) ((xss.getD 0 []).length)) (bs := normBD xss ws gs x) zz1 zz1 (by omega) (by omega)))) ?_
  rintro ⟨a28, c28⟩
  refine vr (yr_extract rfl rfl rfl (by nofun)) ?_
  refine vr (yr_extract rfl rfl rfl (by nofun)) ?_
  refine vr (yr_assign rfl rfl) ?_
  refine vr (yr_assign rfl rfl) ?_
  refine VL.nil (VE.then_wp (V.ret ?_))
  refine ret2 rfl rfl rfl (by nofun) (by nofun) (fun w1 hw => ?_)
  obtain ⟨q1, q2⟩ := ft_is3 hs (by assumption)
  exact ⟨(a28, c28), by rw [q1, q2] <;> rfl, by rw [q2]; exact hw.out1⟩
end Go.Proofs.Ytgeflnjjppgooaa.Q

namespace Go.Proofs.Ytgeflnjjppgooaa
open Go.RowKit
theorem cut_even_ge (s : Bool) {n d q : Nat} (h : q * 2 ^ d ≤ n) : q ≤ Ieee.Toward.even.cut s n d := by
  unfold Ieee.Toward.cut
  simp only [Nat.shiftLeft_eq, Nat.one_mul]
  by_cases hd : d ≤ n.log2 + 2
  · rw [Nat.min_eq_left hd]
    have hlow : q ≤ n / 2 ^ d := (Nat.le_div_iff_mul_le (pow_pos' d)).2 h
    omega
  · have hlt : n < 2 ^ d := Nat.lt_of_lt_of_le (lt_log2 n) (Nat.pow_le_pow_right (by decide) (by omega))
    have : q = 0 := by
      rcases Nat.eq_zero_or_pos q with h0 | h0
      · exact h0
      · have := Nat.mul_le_mul_right (2 ^ d) h0
        rw [Nat.one_mul] at this
        omega
    rw [this]; exact Nat.zero_le _
/-- What is not less than the number of a word is written as no lesser word. -/
theorem nearest_ge (f : Ieee.Format) (s : Bool) {m r a b : Nat} {e : Int} (hr : r ≤ f.infRung) (he : e + a = f.leastPlace + b) (h : units f r * 2 ^ a ≤ m * 2 ^ b) : ∃ r', f.nearest s m e = f.word s r' ∧ r ≤ r' ∧ r' ≤ f.infRung := by
  unfold Ieee.Format.nearest
  have hb : 0 < f.binade := pow_pos' _
  have hbe : f.binade = 2 ^ f.fractionBits := rfl
  by_cases hm : m = 0
  · rw [if_pos hm]
    refine ⟨0, rfl, ?_, Nat.zero_le _⟩
    rw [hm, Nat.zero_mul] at h
    have hu : units f r = 0 := by
      have := Nat.le_of_lt_succ (Nat.lt_succ_of_le h)
      rcases Nat.eq_zero_or_pos (units f r) with h0 | h0
      · exact h0
      · have := Nat.mul_pos h0 (pow_pos' a); omega
    have := (units_zero f).1 hu
    omega
  rw [if_neg hm]
  refine ⟨_, rfl, Nat.le_min.2 ⟨?_, hr⟩, Nat.min_le_right _ _⟩
  obtain ⟨t, ht⟩ : ∃ t : Nat, max (e + (m.log2 : Int) - (f.fractionBits : Int)) f.leastPlace = f.leastPlace + (t : Int) :=
    ⟨(max (e + (m.log2 : Int) - (f.fractionBits : Int)) f.leastPlace - f.leastPlace).toNat, by omega⟩
  simp only [ht]
  have e1 : (f.leastPlace + (t : Int) - f.leastPlace).toNat = t := by omega
  rw [e1]
  have key : ∀ q : Nat, q * 2 ^ t * 2 ^ a ≤ m * 2 ^ b → q ≤ Ieee.Toward.even.cut s (m <<< (e - (f.leastPlace + t)).toNat) ((f.leastPlace + t) - e).toNat := by
    intro q hqt
    rw [Nat.mul_assoc, ← Nat.pow_add] at hqt
    rcases Nat.le_total (t + a) b with hle | hle
    · have g1 : (e - (f.leastPlace + t)).toNat = b - (t + a) := by omega
      have g2 : ((f.leastPlace + t) - e).toNat = 0 := by omega
      rw [g1, g2, cut_zero, shl_eq]
      have h9 : q * 2 ^ (t + a) ≤ m * 2 ^ (b - (t + a)) * 2 ^ (t + a) := by
        rw [Nat.mul_assoc m, ← Nat.pow_add, show b - (t + a) + (t + a) = b by omega]; exact hqt
      exact Nat.le_of_mul_le_mul_right h9 (pow_pos' _)
    · have g1 : (e - (f.leastPlace + t)).toNat = 0 := by omega
      have g2 : ((f.leastPlace + t) - e).toNat = t + a - b := by omega
      have : t + a = (t + a - b) + b := by omega
      rw [this, Nat.pow_add, ← Nat.mul_assoc] at hqt
      have hm' := Nat.le_of_mul_le_mul_right hqt (pow_pos' b)
      rw [g1, g2, shl_eq, Nat.pow_zero, Nat.mul_one]
      exact cut_even_ge s hm'
  have hfull : 1 ≤ t → f.binade ≤ Ieee.Toward.even.cut s (m <<< (e - (f.leastPlace + t)).toNat) ((f.leastPlace + t) - e).toNat := by
    intro h1
    refine key _ ?_
    have h2 := Nat.log2_self_le hm
    have h3 : f.fractionBits + t + a = b + m.log2 := by omega
    rw [hbe, ← Nat.pow_add, ← Nat.pow_add, h3, Nat.pow_add, Nat.mul_comm]
    exact Nat.mul_le_mul_right _ h2
  by_cases hrb : r < f.binade
  · have hur : units f r = r := by unfold units; rw [if_pos hrb]
    rcases Nat.eq_zero_or_pos t with h0 | h0
    · subst h0
      have := key r (by rw [Nat.pow_zero, Nat.mul_one, ← hur]; exact h)
      omega
    · have := hfull h0
      omega
  · have hq1 : 1 ≤ r / f.binade := (Nat.le_div_iff_mul_le hb).2 (by omega)
    have hmod := Nat.mod_lt r hb
    have hur : units f r = (f.binade + r % f.binade) * 2 ^ (r / f.binade - 1) := by unfold units; rw [if_neg hrb]
    have hqne : f.binade + r % f.binade ≠ 0 := by omega
    have hlg : (units f r).log2 = f.fractionBits + (r / f.binade - 1) := by
      rw [hur, log2_mul_pow hqne]
      congr 1
      rw [Nat.log2_eq_iff hqne]
      rw [Nat.pow_succ, ← hbe]
      omega
    have hu : units f r ≠ 0 := by rw [hur]; exact Nat.mul_ne_zero hqne (Nat.ne_of_gt (pow_pos' _))
    have hl : (units f r).log2 + a ≤ m.log2 + b := by
      have := log2_mono h
      rwa [log2_mul_pow hm b, log2_mul_pow hu a] at this
    have hT : r / f.binade - 1 ≤ t := by omega
    have e2 := Nat.div_add_mod r f.binade
    rw [Nat.mul_comm] at e2
    rcases Nat.lt_or_eq_of_le hT with hlt | heq
    · have h4 := hfull (by omega)
      have h5 : (r / f.binade) * f.binade ≤ t * f.binade := Nat.mul_le_mul_right _ (by omega)
      omega
    · have hk := key (f.binade + r % f.binade) (by rw [← heq, ← hur]; exact h)
      have h5 : (t + 1) * f.binade = r / f.binade * f.binade := by congr 1; omega
      rw [Nat.add_mul, Nat.one_mul] at h5
      omega
/-- n steps of a grid are a number of single precision. -/
theorem er_rep {n c : Nat} (h : n ≤ 2 ^ 24) (hc : c ≤ 200) : ∃ r, r < FloatKind.f32.format.infRung ∧ units FloatKind.f32.format r = n * 2 ^ c := by
  have hb : FloatKind.f32.format.binade = 2 ^ 23 := by decide
  have hi : FloatKind.f32.format.infRung = 255 * 2 ^ 23 := by decide
  by_cases h0 : n < 2 ^ 24
  · by_cases h1 : n = 0
    · subst h1
      exact ⟨0, by decide, by rw [(units_zero _).2 rfl, Nat.zero_mul]⟩
    have hl : n.log2 ≤ 23 := by have := (Nat.log2_lt h1).2 h0; omega
    have g1 := Nat.log2_self_le h1
    have g2 : n < 2 ^ (n.log2 + 1) := Nat.lt_log2_self
    -- shift left until 24 bits are there, or until the grid is the least one
    obtain ⟨d, hd, hdc⟩ : ∃ d, d ≤ c ∧ (d = c ∧ n * 2 ^ d < 2 ^ 24 ∨ 2 ^ 23 ≤ n * 2 ^ d ∧ n * 2 ^ d < 2 ^ 24) := by
      by_cases hcl : c ≤ 23 - n.log2
      · refine ⟨c, Nat.le_refl _, .inl ⟨rfl, ?_⟩⟩
        calc n * 2 ^ c < 2 ^ (n.log2 + 1) * 2 ^ c := Nat.mul_lt_mul_of_pos_right g2 (pow_pos' _)
          _ = 2 ^ (n.log2 + 1 + c) := by rw [← Nat.pow_add]
          _ ≤ 2 ^ 24 := Nat.pow_le_pow_right (by decide) (by omega)
      · refine ⟨23 - n.log2, by omega, .inr ⟨?_, ?_⟩⟩
        · calc 2 ^ 23 = 2 ^ n.log2 * 2 ^ (23 - n.log2) := by rw [← Nat.pow_add]; congr 1; omega
            _ ≤ _ := Nat.mul_le_mul_right _ g1
        · calc n * 2 ^ (23 - n.log2) < 2 ^ (n.log2 + 1) * 2 ^ (23 - n.log2) := Nat.mul_lt_mul_of_pos_right g2 (pow_pos' _)
            _ = 2 ^ 24 := by rw [← Nat.pow_add]; congr 1; omega
    have hmul : n * 2 ^ c = n * 2 ^ d * 2 ^ (c - d) := by rw [Nat.mul_assoc, ← Nat.pow_add]; congr 2; omega
    rw [hmul]
    generalize n * 2 ^ d = m at hdc
    by_cases hm : m < 2 ^ 23
    · have hd2 : d = c := by rcases hdc with h2 | h2 <;> omega
      refine ⟨m, by rw [hi]; omega, ?_⟩
      unfold units
      rw [hb, if_pos hm, hd2, Nat.sub_self, Nat.pow_zero, Nat.mul_one]
    · have hm2 : m < 2 ^ 24 := by rcases hdc with h2 | h2 <;> omega
      refine ⟨(c - d + 1) * 2 ^ 23 + (m - 2 ^ 23), by rw [hi]; omega, ?_⟩
      unfold units
      rw [hb, if_neg (by omega)]
      have e1 : ((c - d + 1) * 2 ^ 23 + (m - 2 ^ 23)) % 2 ^ 23 = m - 2 ^ 23 := by
        rw [Nat.add_comm, Nat.add_mul_mod_self_right, Nat.mod_eq_of_lt (by omega)]
      have e2 : ((c - d + 1) * 2 ^ 23 + (m - 2 ^ 23)) / 2 ^ 23 = c - d + 1 := by
        rw [Nat.add_comm, Nat.add_mul_div_right _ _ (by decide), Nat.div_eq_of_lt (by omega), Nat.zero_add]
      rw [e1, e2, show 2 ^ 23 + (m - 2 ^ 23) = m by omega, Nat.add_sub_cancel]
  · obtain rfl : n = 2 ^ 24 := by omega
    refine ⟨(c + 2) * 2 ^ 23, by rw [hi]; omega, ?_⟩
    unfold units
    rw [hb, if_neg (by omega), Nat.mul_mod_left, Nat.mul_div_cancel _ (by decide), Nat.add_zero, show c + 2 - 1 = 1 + c by omega, Nat.pow_add, ← Nat.mul_assoc]
/-- Written: not farther than a step of the grid. -/
theorem er_core (s : Bool) {m a b c : Nat} {e : Int} (hc : c ≤ 200) (he : e + a = FloatKind.f32.format.leastPlace + b) (h : m * 2 ^ b ≤ 2 ^ 24 * 2 ^ c * 2 ^ a) :
    ∃ r, FloatKind.f32.format.nearest s m e = FloatKind.f32.format.word s r ∧ r < FloatKind.f32.format.infRung ∧ units FloatKind.f32.format r * 2 ^ a ≤ m * 2 ^ b + 2 ^ c * 2 ^ a ∧ m * 2 ^ b ≤ units FloatKind.f32.format r * 2 ^ a + 2 ^ c * 2 ^ a := by
  have hp : 0 < 2 ^ c * 2 ^ a := Nat.mul_pos (pow_pos' _) (pow_pos' _)
  generalize hG : 2 ^ c * 2 ^ a = G at *
  rw [Nat.mul_assoc, hG] at h
  generalize hN : m * 2 ^ b = N at *
  have hn1 : N / G ≤ 2 ^ 24 := Nat.div_le_of_le_mul (by rw [Nat.mul_comm]; exact h)
  have hdm := Nat.div_add_mod N G
  have hml := Nat.mod_lt N hp
  obtain ⟨r1, a1, a2⟩ := er_rep hn1 hc
  obtain ⟨t1, b1, b2, b3⟩ := nearest_ge FloatKind.f32.format s (m := m) (r := r1) (a := a) (b := b) (Nat.le_of_lt a1) he (by rw [a2, Nat.mul_assoc, hG, hN, Nat.mul_comm]; omega)
  -- the upper one
  obtain ⟨r2, c1, c2, c3⟩ : ∃ r2, r2 < FloatKind.f32.format.infRung ∧ N ≤ units FloatKind.f32.format r2 * 2 ^ a ∧ units FloatKind.f32.format r2 * 2 ^ a ≤ N + G := by
    by_cases hz : N % G = 0
    · exact ⟨r1, a1, by rw [a2, Nat.mul_assoc, hG, Nat.mul_comm]; omega, by rw [a2, Nat.mul_assoc, hG, Nat.mul_comm]; omega⟩
    · have hn2 : N / G + 1 ≤ 2 ^ 24 := by
        rcases Nat.lt_or_ge (N / G) (2 ^ 24) with h1 | h1
        · exact h1
        · have : G * (2 ^ 24) ≤ G * (N / G) := Nat.mul_le_mul_left _ h1
          rw [Nat.mul_comm] at this
          omega
      obtain ⟨r2, d1, d2⟩ := er_rep hn2 hc
      have e2 : (N / G + 1) * G = G * (N / G) + G := by rw [Nat.add_mul, Nat.one_mul, Nat.mul_comm]
      exact ⟨r2, d1, by rw [d2, Nat.mul_assoc, hG, e2]; omega, by rw [d2, Nat.mul_assoc, hG, e2]; omega⟩
  obtain ⟨t2, d1, d2⟩ := nearest_le FloatKind.f32.format s (m := m) (r := r2) (a := a) (b := b) he (by rw [hN]; exact c2)
  have ht : t1 = t2 := by
    have h1 := rng_word .f32 s (r := t1) b3
    have h2 := rng_word .f32 s (r := t2) (by omega)
    rw [← h1.1, ← h2.1, ← b1, ← d1]
  subst ht
  have m1 := Nat.mul_le_mul_right (2 ^ a) (units_mono FloatKind.f32.format b2)
  have m2 := Nat.mul_le_mul_right (2 ^ a) (units_mono FloatKind.f32.format d2)
  rw [a2, Nat.mul_assoc, hG, Nat.mul_comm] at m1
  exact ⟨t1, b1, by omega, by omega, by omega⟩
end Go.Proofs.Ytgeflnjjppgooaa

namespace Go.Proofs.Ytgeflnjjppgooaa
open Go.RowKit
/-- A step: 2^-24 in units of the least place. One is 2^24 steps. -/
def UU : Int := ((2 ^ 125 : Nat) : Int)
theorem UU_pos : 0 < UU := by unfold UU; exact_mod_cast pow_pos' 125
theorem UU_big {k : Nat} {K : Int} (hK : ((2 ^ k : Nat) : Int) = K) : K * (16777216 * UU) = ((2 ^ 24 * 2 ^ (125 + k) : Nat) : Int) ∧ K * UU = ((2 ^ (125 + k) : Nat) : Int) := by
  have e : 2 ^ k * 2 ^ 125 = 2 ^ (125 + k) := by rw [← Nat.pow_add, Nat.add_comm]
  have e2 : K * UU = ((2 ^ (125 + k) : Nat) : Int) := by rw [← hK, UU, ← Int.natCast_mul, e]
  refine ⟨?_, e2⟩
  rw [Int.mul_left_comm, e2, Int.natCast_mul]
  congr 1
theorem BB_is : (16777216 : Int) * UU = ((2 ^ 149 : Nat) : Int) := by
  have := (UU_big (k := 24) (K := 16777216) (by decide)).2
  rw [this]
/-- The word x is X units. -/
def apx (x : Nat) (X : Int) : Prop := x < 2 ^ FloatKind.f32.format.width ∧ rng FloatKind.f32.format x < FloatKind.f32.format.infRung ∧ sval FloatKind.f32.format x = X
section
variable {x y : Nat} {X Y : Int}
theorem er_word (s : Bool) {r : Nat} (hr : r < FloatKind.f32.format.infRung) : apx (FloatKind.f32.format.word s r) (if s then -(units FloatKind.f32.format r : Int) else (units FloatKind.f32.format r : Int)) := by
  obtain ⟨w1, w2⟩ := rng_word .f32 s (Nat.le_of_lt hr)
  refine ⟨?_, by rw [w1]; exact hr, ?_⟩
  · have hw : FloatKind.f32.format.infRung < FloatKind.f32.format.signWeight := by decide
    rw [width_pos]
    unfold Ieee.Format.word
    split <;> omega
  · unfold sval
    rw [w2, w1]
theorem apx_dy {v : Int} (h : dy .f32 x v) : apx x (v * 2 ^ dyU .f32) := ⟨h.1, h.2.1, h.2.2⟩
theorem apx.units (h : apx x X) : units FloatKind.f32.format (rng FloatKind.f32.format x) = X.natAbs := by
  have := congrArg Int.natAbs h.2.2
  unfold sval at this
  split at this <;> simpa using this
theorem apx.sgn (h : apx x X) : (sgn FloatKind.f32.format x = true → X ≤ 0) ∧ (sgn FloatKind.f32.format x = false → 0 ≤ X) := by
  have := h.2.2
  unfold sval at this
  constructor <;> intro hs <;> rw [hs] at this <;> simp at this <;> omega
theorem er_sign {s : Bool} {N u c : Nat} {V : Int} (hN : V.natAbs = N) (h1 : s = true → V ≤ 0) (h2 : s = false → 0 ≤ V) (h3 : u ≤ N + c) (h4 : N ≤ u + c) :
    V - (c : Int) ≤ (if s then -(u : Int) else (u : Int)) ∧ (if s then -(u : Int) else (u : Int)) ≤ V + (c : Int) := by
  cases s
  · have := h2 rfl
    simp only [Bool.false_eq_true, if_false]
    omega
  · have := h1 rfl
    simp only [if_true]
    omega
theorem er_sum (t : Bool) (k : Nat) {K : Int} (hK : ((2 ^ k : Nat) : Int) = K) (hk : k ≤ 70) (hx : apx x X) (hy : apx y Y) (h1 : -(K * (16777216 * UU)) ≤ X + (if t then -Y else Y)) (h2 : X + (if t then -Y else Y) ≤ K * (16777216 * UU)) :
    ∃ Z, apx (((((FloatKind.f32.format.read x).sum (if t then (FloatKind.f32.format.read y).opposite else FloatKind.f32.format.read y)).map FloatKind.f32.format.write).getD (qn .f32))) Z ∧ X + (if t then -Y else Y) - K * UU ≤ Z ∧ Z ≤ X + (if t then -Y else Y) + K * UU := by
  obtain ⟨s, M, q, e1, e2, e3, e4⟩ := sum_units hx.2.1 hy.2.1 t
  rw [hx.2.2, hy.2.2] at e2 e3 e4
  generalize X + (if t then -Y else Y) = V at *
  obtain ⟨g1, g2⟩ := UU_big hK
  rw [g1] at h1 h2
  rw [g2]
  have hn : M * 2 ^ q ≤ 2 ^ 24 * 2 ^ (125 + k) * 2 ^ 0 := by rw [e2, Nat.pow_zero, Nat.mul_one]; omega
  obtain ⟨r, r1, r2, r3, r4⟩ := er_core s (a := 0) (b := q) (e := FloatKind.f32.format.leastPlace + (q : Int)) (by omega) (by omega) hn
  rw [Nat.pow_zero, Nat.mul_one, Nat.mul_one, e2] at r3 r4
  have hw : (((FloatKind.f32.format.read x).sum (if t then (FloatKind.f32.format.read y).opposite else FloatKind.f32.format.read y)).map FloatKind.f32.format.write).getD (qn .f32) = FloatKind.f32.format.word s r := by
    rw [e1]; exact r1
  rw [hw]
  exact ⟨_, er_word s r2, er_sign rfl e3 e4 r3 r4⟩
theorem er_add (k : Nat) {K : Int} (hK : ((2 ^ k : Nat) : Int) = K) (hk : k ≤ 70) (hx : apx x X) (hy : apx y Y) (h1 : -(K * (16777216 * UU)) ≤ X + Y) (h2 : X + Y ≤ K * (16777216 * UU)) : ∃ Z, apx (fop .add .f32 x y) Z ∧ X + Y - K * UU ≤ Z ∧ Z ≤ X + Y + K * UU :=
  er_sum false k hK hk hx hy h1 h2
theorem er_sub (k : Nat) {K : Int} (hK : ((2 ^ k : Nat) : Int) = K) (hk : k ≤ 70) (hx : apx x X) (hy : apx y Y) (h1 : -(K * (16777216 * UU)) ≤ X - Y) (h2 : X - Y ≤ K * (16777216 * UU)) : ∃ Z, apx (fop .sub .f32 x y) Z ∧ X - Y - K * UU ≤ Z ∧ Z ≤ X - Y + K * UU := by
  obtain ⟨Z, z1, z2, z3⟩ := er_sum true k hK hk hx hy (by simp only [if_true]; omega) (by simp only [if_true]; omega)
  simp only [if_true] at z2 z3
  exact ⟨Z, z1, by omega, by omega⟩
theorem sgn_xor (hx : apx x X) (hy : apx y Y) : ((sgn FloatKind.f32.format x ^^ sgn FloatKind.f32.format y) = true → X * Y ≤ 0) ∧ ((sgn FloatKind.f32.format x ^^ sgn FloatKind.f32.format y) = false → 0 ≤ X * Y) := by
  have sa := hx.sgn
  have sb := hy.sgn
  cases hsx : sgn FloatKind.f32.format x <;> cases hsy : sgn FloatKind.f32.format y
  · exact ⟨by simp, fun _ => Int.mul_nonneg (sa.2 hsx) (sb.2 hsy)⟩
  · exact ⟨fun _ => Int.mul_nonpos_of_nonneg_of_nonpos (sa.2 hsx) (sb.1 hsy), by simp⟩
  · exact ⟨fun _ => Int.mul_nonpos_of_nonpos_of_nonneg (sa.1 hsx) (sb.2 hsy), by simp⟩
  · exact ⟨by simp, fun _ => Int.mul_nonneg_of_nonpos_of_nonpos (sa.1 hsx) (sb.1 hsy)⟩
theorem lp32 : FloatKind.f32.format.leastPlace = -149 := by decide
theorem er_mul (k : Nat) {K : Int} (hK : ((2 ^ k : Nat) : Int) = K) (hk : k ≤ 70) (hx : apx x X) (hy : apx y Y) (h1 : -(K * (16777216 * UU) * (16777216 * UU)) ≤ X * Y) (h2 : X * Y ≤ K * (16777216 * UU) * (16777216 * UU)) :
    ∃ Z, apx (fop .mul .f32 x y) Z ∧ X * Y - K * UU * (16777216 * UU) ≤ Z * (16777216 * UU) ∧ Z * (16777216 * UU) ≤ X * Y + K * UU * (16777216 * UU) := by
  obtain ⟨m, e, a1, a2⟩ := read_number FloatKind.f32.format hx.2.1
  obtain ⟨n, d, b1, b2⟩ := read_number FloatKind.f32.format hy.2.1
  rw [hx.units] at a2
  rw [hy.units] at b2
  obtain ⟨g1, g2⟩ := UU_big hK
  have g3 := BB_is
  rw [g1] at h1 h2
  rw [g2]
  rw [g3] at h1 h2 ⊢
  rw [← Int.natCast_mul] at h1 h2
  have hxy : (X * Y).natAbs = m * n * 2 ^ (e + d) := by rw [Int.natAbs_mul, ← a2, ← b2, Nat.pow_add]; simp only [Nat.mul_assoc, Nat.mul_left_comm]
  have hn : m * n * 2 ^ (e + d) ≤ 2 ^ 24 * 2 ^ (125 + k) * 2 ^ 149 := by rw [← hxy]; omega
  obtain ⟨r, r1, r2, r3, r4⟩ := er_core (sgn FloatKind.f32.format x ^^ sgn FloatKind.f32.format y) (a := 149) (b := e + d) (e := FloatKind.f32.format.leastPlace + (e : Int) + (FloatKind.f32.format.leastPlace + (d : Int))) (by omega) (by rw [lp32]; omega) hn
  have hw : fop .mul .f32 x y = FloatKind.f32.format.word (sgn FloatKind.f32.format x ^^ sgn FloatKind.f32.format y) r := by
    unfold fop floatBits Ieee.Format.mul
    simp only [a1, b1, Ieee.Datum.product, Option.map_some, Option.getD_some]
    exact r1
  rw [hw]
  refine ⟨_, er_word _ r2, ?_⟩
  obtain ⟨s1, s2⟩ := sgn_xor hx hy
  have := er_sign (V := X * Y) hxy s1 s2 r3 r4
  have e9 : (if (sgn FloatKind.f32.format x ^^ sgn FloatKind.f32.format y) = true then -(units FloatKind.f32.format r : Int) else (units FloatKind.f32.format r : Int)) * ((2 ^ 149 : Nat) : Int) =
      (if (sgn FloatKind.f32.format x ^^ sgn FloatKind.f32.format y) = true then -((units FloatKind.f32.format r * 2 ^ 149 : Nat) : Int) else ((units FloatKind.f32.format r * 2 ^ 149 : Nat) : Int)) := by
    split <;> simp only [Int.natCast_mul, Int.neg_mul]
  rw [e9, ← Int.natCast_mul]
  exact this
end
end Go.Proofs.Ytgeflnjjppgooaa

namespace Go.Proofs.Ytgeflnjjppgooaa
open Go.RowKit
set_option maxRecDepth 20000
set_option linter.unusedSimpArgs false
theorem quo_sticky {D n : Nat} (hn : 0 < n) : n * (2 * (D / n) + (D % n != 0).toNat) ≤ 2 * D + n ∧ 2 * D ≤ n * (2 * (D / n) + (D % n != 0).toNat) + n := by
  have h1 := Nat.div_add_mod D n
  have h2 := Nat.mod_lt D hn
  rw [Nat.mul_add, Nat.mul_left_comm]
  by_cases h : D % n = 0
  · rw [h]; simp; omega
  · have : (D % n != 0) = true := by simpa using h
    rw [this]
    simp only [Bool.toNat_true, Nat.mul_one]
    omega
theorem quo_aux {p1 p2 p3 p4 : Nat} (h3 : p1 ≤ 2 * p2 + p3) (h : p2 ≤ p4 * 2 ^ 23) (h2 : p3 ≤ p4) : p1 ≤ p4 * (2 * 2 ^ 24) := by omega
theorem er_quo {x y : Nat} {X Y : Int} (k : Nat) {K : Int} (hK : ((2 ^ k : Nat) : Int) = K) (hk : k ≤ 70) (hx : apx x X) (hy : apx y Y) (hY : 0 < Y) (h1 : -(K * Y) ≤ 2 * X) (h2 : 2 * X ≤ K * Y) :
    ∃ Z, apx (fop .quo .f32 x y) Z ∧ X * (16777216 * UU) - 2 * (K * UU) * Y ≤ Z * Y ∧ Z * Y ≤ X * (16777216 * UU) + 2 * (K * UU) * Y := by
  obtain ⟨m, e, a1, a2⟩ := read_number FloatKind.f32.format hx.2.1
  obtain ⟨n, d, b1, b2⟩ := read_number FloatKind.f32.format hy.2.1
  obtain ⟨s1, s2⟩ := sgn_xor hx hy
  rw [hx.units] at a2
  rw [hy.units] at b2
  rw [(UU_big hK).2, BB_is]
  have hn : 0 < n := by
    rcases Nat.eq_zero_or_pos n with h0 | h0
    · rw [h0, Nat.zero_mul] at b2; omega
    · exact h0
  obtain ⟨S, rfl⟩ : ∃ S : Nat, Y = (S : Int) := ⟨Y.toNat, by omega⟩
  have hS : (((S : Nat) : Int)).natAbs = S := Int.natAbs_natCast S
  rw [hS] at b2
  generalize hA : X.natAbs = A at a2
  have hAS : 2 * A ≤ 2 ^ k * S := by
    rw [← hK, ← Int.natCast_mul] at h1 h2
    omega
  generalize hM : 25 + n.log2 - m.log2 = more
  -- the sticky bit does not matter much
  have hnm : m ≠ 0 → n * 2 ^ 24 ≤ m * 2 ^ more := by
    intro h0
    have g1 := Nat.log2_self_le h0
    have g2 : n < 2 ^ (n.log2 + 1) := Nat.lt_log2_self
    calc n * 2 ^ 24 ≤ 2 ^ (n.log2 + 1) * 2 ^ 24 := Nat.mul_le_mul_right _ (Nat.le_of_lt g2)
      _ = 2 ^ (n.log2 + 25) := by rw [← Nat.pow_add]
      _ ≤ 2 ^ (m.log2 + more) := Nat.pow_le_pow_right (by decide) (by omega)
      _ = 2 ^ m.log2 * 2 ^ more := by rw [← Nat.pow_add]
      _ ≤ _ := Nat.mul_le_mul_right _ g1
  obtain ⟨q1, q2⟩ := quo_sticky (D := m * 2 ^ more) hn
  generalize hMM : 2 * ((m * 2 ^ more) / n) + ((m * 2 ^ more) % n != 0).toNat = M at q1 q2
  -- in common units
  have hb : m * 2 ^ more * 2 ^ (e + 149) = A * 2 ^ more * 2 ^ 149 := by
    rw [← a2, Nat.pow_add]; simp only [Nat.mul_assoc, Nat.mul_comm, Nat.mul_left_comm]
  have ha : n * 2 ^ (d + more + 1) = S * 2 ^ more * 2 := by
    rw [← b2, Nat.pow_succ, Nat.pow_add]; simp only [Nat.mul_assoc]
  have hAS2 : A * 2 ^ more * 2 ^ 149 ≤ S * 2 ^ more * (2 ^ 23 * 2 ^ (125 + k)) := by
    have e3 : 2 ^ 23 * 2 ^ (125 + k) = 2 ^ k * 2 ^ 148 := by rw [← Nat.pow_add, ← Nat.pow_add, show 23 + (125 + k) = k + 148 by omega]
    have e4' : ∀ c : Nat, 2 ^ (c + 1) = 2 * 2 ^ c := fun c => by rw [Nat.pow_succ, Nat.mul_comm]
    have e4 : (2 : Nat) ^ 149 = 2 * 2 ^ 148 := e4' 148
    rw [e3, e4]
    generalize 2 ^ 148 = W at *
    generalize 2 ^ more = V
    calc A * V * (2 * W) = 2 * A * (V * W) := by simp only [Nat.mul_assoc, Nat.mul_comm, Nat.mul_left_comm]
      _ ≤ 2 ^ k * S * (V * W) := Nat.mul_le_mul_right _ hAS
      _ = _ := by simp only [Nat.mul_assoc, Nat.mul_comm, Nat.mul_left_comm]
  have hnb : n * 2 ^ (e + 149) ≤ S * 2 ^ more * 2 ^ (125 + k) ∨ M = 0 := by
    by_cases h0 : m = 0
    · right
      rw [← hMM, h0]; simp
    · left
      have h3 := Nat.mul_le_mul_right (2 ^ (e + 149)) (hnm h0)
      rw [hb] at h3
      have h4 := Nat.le_trans h3 hAS2
      have e5 : S * 2 ^ more * (2 ^ 23 * 2 ^ (125 + k)) = S * 2 ^ more * 2 ^ (125 + k) * 2 ^ 23 := by simp only [Nat.mul_assoc, Nat.mul_comm, Nat.mul_left_comm]
      have e6 : n * 2 ^ 24 * 2 ^ (e + 149) = n * 2 ^ (e + 149) * 2 ^ 24 := by simp only [Nat.mul_assoc, Nat.mul_left_comm, Nat.mul_comm]
      rw [e5, e6] at h4
      generalize n * 2 ^ (e + 149) = p at *
      generalize S * 2 ^ more * 2 ^ (125 + k) = q at *
      omega
  have hcore : M * 2 ^ (e + 149) ≤ 2 ^ 24 * 2 ^ (125 + k) * 2 ^ (d + more + 1) := by
    rcases hnb with hnb | h0
    · refine Nat.le_of_mul_le_mul_left ?_ hn
      have h3 := Nat.mul_le_mul_right (2 ^ (e + 149)) q1
      rw [Nat.add_mul, Nat.mul_assoc 2, hb, Nat.mul_assoc n M] at h3
      have e5 : n * (2 ^ 24 * 2 ^ (125 + k) * 2 ^ (d + more + 1)) = S * 2 ^ more * 2 ^ (125 + k) * (2 * 2 ^ 24) := by
        rw [Nat.mul_left_comm, ha]; simp only [Nat.mul_assoc, Nat.mul_left_comm, Nat.mul_comm]
      have e6 : S * 2 ^ more * (2 ^ 23 * 2 ^ (125 + k)) = S * 2 ^ more * 2 ^ (125 + k) * 2 ^ 23 := by simp only [Nat.mul_assoc, Nat.mul_comm, Nat.mul_left_comm]
      rw [e5]
      rw [e6] at hAS2
      exact quo_aux h3 hAS2 hnb
    · rw [h0, Nat.zero_mul]; exact Nat.zero_le _
  obtain ⟨r, r1, r2, r3, r4⟩ := er_core (sgn FloatKind.f32.format x ^^ sgn FloatKind.f32.format y) (m := M) (a := d + more + 1) (b := e + 149) (c := 125 + k) (e := FloatKind.f32.format.leastPlace + (e : Int) - (FloatKind.f32.format.leastPlace + (d : Int)) - more - 1) (by omega) (by rw [lp32]; omega) hcore
  have hw : fop .quo .f32 x y = FloatKind.f32.format.word (sgn FloatKind.f32.format x ^^ sgn FloatKind.f32.format y) r := by
    have e0 : fop .quo .f32 x y = ((((FloatKind.f32.format.read x).quotient 25 (FloatKind.f32.format.read y)).map FloatKind.f32.format.write).getD (qn .f32)) := rfl
    rw [e0, a1, b1]
    simp only [Ieee.Datum.quotient, if_neg (Nat.ne_of_gt hn), Option.map_some, Option.getD_some, hM]
    rw [← r1, ← hMM, shl_eq]
    rfl
  rw [hw]
  refine ⟨_, er_word _ r2, ?_⟩
  generalize units FloatKind.f32.format r = u at *
  have key : u * S ≤ A * 2 ^ 149 + 2 * 2 ^ (125 + k) * S ∧ A * 2 ^ 149 ≤ u * S + 2 * 2 ^ (125 + k) * S := by
    have t3 := Nat.mul_le_mul_left n r3
    have t4 := Nat.mul_le_mul_left n r4
    have e5 : n * (u * 2 ^ (d + more + 1)) = u * S * (2 ^ more * 2) := by rw [Nat.mul_left_comm, ha]; simp only [Nat.mul_assoc]
    have e6 : n * (2 ^ (125 + k) * 2 ^ (d + more + 1)) = 2 ^ (125 + k) * S * (2 ^ more * 2) := by rw [Nat.mul_left_comm, ha]; simp only [Nat.mul_assoc]
    rw [Nat.mul_add, e5, e6] at t3 t4
    have u1 := Nat.mul_le_mul_right (2 ^ (e + 149)) q1
    have u2 := Nat.mul_le_mul_right (2 ^ (e + 149)) q2
    rw [Nat.add_mul, Nat.mul_assoc 2, hb, Nat.mul_assoc n M] at u1 u2
    have e7 : A * 2 ^ more * 2 ^ 149 = A * 2 ^ 149 * 2 ^ more := by simp only [Nat.mul_assoc, Nat.mul_comm, Nat.mul_left_comm]
    rw [e7] at u1 u2
    have hP : 0 < 2 ^ more * 2 := Nat.mul_pos (pow_pos' _) (by decide)
    have e8 : S * 2 ^ more * 2 ^ (125 + k) = 2 ^ (125 + k) * S * 2 ^ more := by simp only [Nat.mul_assoc, Nat.mul_comm, Nat.mul_left_comm]
    have z1 : ∀ v : Nat, v * (2 ^ more * 2) = 2 * (v * 2 ^ more) := by intro v; simp only [Nat.mul_assoc, Nat.mul_comm, Nat.mul_left_comm]
    have z2 : 2 * 2 ^ (125 + k) * S * (2 ^ more * 2) = 4 * (2 ^ (125 + k) * S * 2 ^ more) := by
      rw [z1, Nat.mul_assoc 2, Nat.mul_assoc 2]; omega
    rcases hnb with hnb | h0
    · rw [e8] at hnb
      refine ⟨Nat.le_of_mul_le_mul_right ?_ hP, Nat.le_of_mul_le_mul_right ?_ hP⟩
      · rw [Nat.add_mul, z2, z1 (A * 2 ^ 149), z1 (u * S)]
        rw [z1 (u * S), z1 (2 ^ (125 + k) * S)] at t3
        generalize u * S * 2 ^ more = v1 at *
        generalize n * (M * 2 ^ (e + 149)) = v2 at *
        generalize 2 ^ (125 + k) * S * 2 ^ more = v3 at *
        generalize A * 2 ^ 149 * 2 ^ more = v4 at *
        generalize n * 2 ^ (e + 149) = v5 at *
        omega
      · rw [Nat.add_mul, z2, z1 (A * 2 ^ 149), z1 (u * S)]
        rw [z1 (u * S), z1 (2 ^ (125 + k) * S)] at t4
        generalize u * S * 2 ^ more = v1 at *
        generalize n * (M * 2 ^ (e + 149)) = v2 at *
        generalize 2 ^ (125 + k) * S * 2 ^ more = v3 at *
        generalize A * 2 ^ 149 * 2 ^ more = v4 at *
        generalize n * 2 ^ (e + 149) = v5 at *
        omega
    · have hA0 : A = 0 := by
        by_cases hm : m = 0
        · rw [← a2, hm, Nat.zero_mul]
        · exfalso
          have g1 := hnm hm
          rw [h0, Nat.mul_zero] at q2
          omega
      rw [h0, Nat.zero_mul, Nat.mul_zero, Nat.zero_add] at t3
      rw [hA0, Nat.zero_mul, Nat.zero_add]
      refine ⟨Nat.le_of_mul_le_mul_right (Nat.le_trans t3 ?_) hP, Nat.zero_le _⟩
      refine Nat.mul_le_mul_right _ ?_
      rw [Nat.mul_assoc]
      omega
  have hXB : (X * ((2 ^ 149 : Nat) : Int)).natAbs = A * 2 ^ 149 := by rw [Int.natAbs_mul, Int.natAbs_natCast, hA]
  have hB : (0 : Int) < ((2 ^ 149 : Nat) : Int) := by exact_mod_cast pow_pos' 149
  have t1 : (sgn FloatKind.f32.format x ^^ sgn FloatKind.f32.format y) = true → X * ((2 ^ 149 : Nat) : Int) ≤ 0 := fun h => by
    have := s1 h
    have : X ≤ 0 := Int.le_of_mul_le_mul_right (by rw [Int.zero_mul]; exact this) hY
    exact Int.mul_nonpos_of_nonpos_of_nonneg this (Int.le_of_lt hB)
  have t2 : (sgn FloatKind.f32.format x ^^ sgn FloatKind.f32.format y) = false → 0 ≤ X * ((2 ^ 149 : Nat) : Int) := fun h => by
    have := s2 h
    have : 0 ≤ X := Int.le_of_mul_le_mul_right (by rw [Int.zero_mul]; exact this) hY
    exact Int.mul_nonneg this (Int.le_of_lt hB)
  have := er_sign (V := X * ((2 ^ 149 : Nat) : Int)) hXB t1 t2 key.1 key.2
  have e9 : (if (sgn FloatKind.f32.format x ^^ sgn FloatKind.f32.format y) = true then -(u : Int) else (u : Int)) * (S : Int) =
      (if (sgn FloatKind.f32.format x ^^ sgn FloatKind.f32.format y) = true then -((u * S : Nat) : Int) else ((u * S : Nat) : Int)) := by
    split <;> simp only [Int.natCast_mul, Int.neg_mul]
  have e10 : 2 * ((2 ^ (125 + k) : Nat) : Int) * (S : Int) = ((2 * 2 ^ (125 + k) * S : Nat) : Int) := by simp only [Int.natCast_mul]; rfl
  rw [e9, e10]
  exact this
end Go.Proofs.Ytgeflnjjppgooaa

namespace Go.Proofs.Ytgeflnjjppgooaa
open Go.RowKit
/-- n steps of a grid are a number of double precision. -/
theorem er_rep64 {n c : Nat} (h : n ≤ 2 ^ 53) (hc : c ≤ 1900) : ∃ r, r < FloatKind.f64.format.infRung ∧ units FloatKind.f64.format r = n * 2 ^ c := by
  have hb : FloatKind.f64.format.binade = 2 ^ 52 := by decide
  have hi : FloatKind.f64.format.infRung = 2047 * 2 ^ 52 := by decide
  by_cases h0 : n < 2 ^ 53
  · by_cases h1 : n = 0
    · subst h1
      exact ⟨0, by decide, by rw [(units_zero _).2 rfl, Nat.zero_mul]⟩
    have hl : n.log2 ≤ 52 := by have := (Nat.log2_lt h1).2 h0; omega
    have g1 := Nat.log2_self_le h1
    have g2 : n < 2 ^ (n.log2 + 1) := Nat.lt_log2_self
    -- shift left until 24 bits are there, or until the grid is the least one
    obtain ⟨d, hd, hdc⟩ : ∃ d, d ≤ c ∧ (d = c ∧ n * 2 ^ d < 2 ^ 53 ∨ 2 ^ 52 ≤ n * 2 ^ d ∧ n * 2 ^ d < 2 ^ 53) := by
      by_cases hcl : c ≤ 52 - n.log2
      · refine ⟨c, Nat.le_refl _, .inl ⟨rfl, ?_⟩⟩
        calc n * 2 ^ c < 2 ^ (n.log2 + 1) * 2 ^ c := Nat.mul_lt_mul_of_pos_right g2 (pow_pos' _)
          _ = 2 ^ (n.log2 + 1 + c) := by rw [← Nat.pow_add]
          _ ≤ 2 ^ 53 := Nat.pow_le_pow_right (by decide) (by omega)
      · refine ⟨52 - n.log2, by omega, .inr ⟨?_, ?_⟩⟩
        · calc 2 ^ 52 = 2 ^ n.log2 * 2 ^ (52 - n.log2) := by rw [← Nat.pow_add]; congr 1; omega
            _ ≤ _ := Nat.mul_le_mul_right _ g1
        · calc n * 2 ^ (52 - n.log2) < 2 ^ (n.log2 + 1) * 2 ^ (52 - n.log2) := Nat.mul_lt_mul_of_pos_right g2 (pow_pos' _)
            _ = 2 ^ 53 := by rw [← Nat.pow_add]; congr 1; omega
    have hmul : n * 2 ^ c = n * 2 ^ d * 2 ^ (c - d) := by rw [Nat.mul_assoc, ← Nat.pow_add]; congr 2; omega
    rw [hmul]
    generalize n * 2 ^ d = m at hdc
    by_cases hm : m < 2 ^ 52
    · have hd2 : d = c := by rcases hdc with h2 | h2 <;> omega
      refine ⟨m, by rw [hi]; omega, ?_⟩
      unfold units
      rw [hb, if_pos hm, hd2, Nat.sub_self, Nat.pow_zero, Nat.mul_one]
    · have hm2 : m < 2 ^ 53 := by rcases hdc with h2 | h2 <;> omega
      refine ⟨(c - d + 1) * 2 ^ 52 + (m - 2 ^ 52), by rw [hi]; omega, ?_⟩
      unfold units
      rw [hb, if_neg (by omega)]
      have e1 : ((c - d + 1) * 2 ^ 52 + (m - 2 ^ 52)) % 2 ^ 52 = m - 2 ^ 52 := by
        rw [Nat.add_comm, Nat.add_mul_mod_self_right, Nat.mod_eq_of_lt (by omega)]
      have e2 : ((c - d + 1) * 2 ^ 52 + (m - 2 ^ 52)) / 2 ^ 52 = c - d + 1 := by
        rw [Nat.add_comm, Nat.add_mul_div_right _ _ (by decide), Nat.div_eq_of_lt (by omega), Nat.zero_add]
      rw [e1, e2, show 2 ^ 52 + (m - 2 ^ 52) = m by omega, Nat.add_sub_cancel]
  · obtain rfl : n = 2 ^ 53 := by omega
    refine ⟨(c + 2) * 2 ^ 52, by rw [hi]; omega, ?_⟩
    unfold units
    rw [hb, if_neg (by omega), Nat.mul_mod_left, Nat.mul_div_cancel _ (by decide), Nat.add_zero, show c + 2 - 1 = 1 + c by omega, Nat.pow_add, ← Nat.mul_assoc]
theorem lp64 : FloatKind.f64.format.leastPlace = -1074 := by decide
/-- Narrowed: not farther than a step of the grid. -/
theorem er_narrow {y : Nat} {V : Int} {c : Nat} (hc : c ≤ 200) (hy : rng FloatKind.f64.format y < FloatKind.f64.format.infRung) (hV : sval FloatKind.f64.format y = V) (h : V.natAbs ≤ 2 ^ 24 * 2 ^ c * 2 ^ 925) :
    fover .f64 .f32 y = false ∧ ∃ Z, apx (fconv .f64 .f32 y) Z ∧ V - ((2 ^ c * 2 ^ 925 : Nat) : Int) ≤ Z * ((2 ^ 925 : Nat) : Int) ∧ Z * ((2 ^ 925 : Nat) : Int) ≤ V + ((2 ^ c * 2 ^ 925 : Nat) : Int) := by
  obtain ⟨m, e, a1, a2⟩ := read_number FloatKind.f64.format hy
  have hu : units FloatKind.f64.format (rng FloatKind.f64.format y) = V.natAbs := by
    have := congrArg Int.natAbs hV
    unfold sval at this
    split at this <;> simpa using this
  have hs : (sgn FloatKind.f64.format y = true → V ≤ 0) ∧ (sgn FloatKind.f64.format y = false → 0 ≤ V) := by
    have := hV
    unfold sval at this
    constructor <;> intro hs <;> rw [hs] at this <;> simp at this <;> omega
  rw [hu] at a2
  obtain ⟨r, r1, r2, r3, r4⟩ := er_core (sgn FloatKind.f64.format y) (m := m) (a := 925) (b := e) (c := c) (e := FloatKind.f64.format.leastPlace + (e : Int)) hc (by rw [lp64, lp32]; omega) (by rw [a2]; exact h)
  rw [a2] at r3 r4
  have hd : FloatKind.f64.decode y = .number (sgn FloatKind.f64.format y) m (FloatKind.f64.format.leastPlace + (e : Int)) := a1
  have he : FloatKind.f32.encode (.number (sgn FloatKind.f64.format y) m (FloatKind.f64.format.leastPlace + (e : Int))) = FloatKind.f32.format.word (sgn FloatKind.f64.format y) r := r1
  have hw := er_word (sgn FloatKind.f64.format y) r2
  refine ⟨?_, (if sgn FloatKind.f64.format y then -(units FloatKind.f32.format r : Int) else (units FloatKind.f32.format r : Int)), ?_, ?_⟩
  · unfold fover
    rw [if_neg (by decide), hd]
    simp only [he]
    obtain ⟨m', e', b1, _⟩ := read_number FloatKind.f32.format hw.2.1
    have b2 : FloatKind.f32.decode (FloatKind.f32.format.word (sgn FloatKind.f64.format y) r) = _ := b1
    rw [b2]; rfl
  · unfold fconv
    rw [if_neg (by decide), hd]
    simp only [he]
    exact hw
  · have := er_sign (V := V) rfl hs.1 hs.2 r3 r4
    have e9 : (if sgn FloatKind.f64.format y = true then -(units FloatKind.f32.format r : Int) else (units FloatKind.f32.format r : Int)) * ((2 ^ 925 : Nat) : Int) =
        (if sgn FloatKind.f64.format y = true then -((units FloatKind.f32.format r * 2 ^ 925 : Nat) : Int) else ((units FloatKind.f32.format r * 2 ^ 925 : Nat) : Int)) := by
      split <;> simp only [Int.natCast_mul, Int.neg_mul]
    rw [e9]
    exact this
theorem pow2_is (n : Nat) : pow2 n = 2 ^ n := rfl
/-- The double word x is V units of the least place of doubles. -/
def apd (x : Nat) (V : Int) : Prop := rng FloatKind.f64.format x < FloatKind.f64.format.infRung ∧ sval FloatKind.f64.format x = V
theorem apd_up {x : Nat} {X : Int} (h : apx x X) : apd (up x) (X * ((2 ^ 925 : Nat) : Int)) := by
  obtain ⟨u1, u2, u3⟩ := up_number (x := x) h.2.1
  refine ⟨u2, ?_⟩
  have hk : upK = 2 ^ 925 := (show upK = pow2 925 from rfl).trans (pow2_is 925)
  have e : sval FloatKind.f64.format (up x) = if sgn FloatKind.f32.format x then -((units FloatKind.f32.format (rng FloatKind.f32.format x) * upK : Nat) : Int) else ((units FloatKind.f32.format (rng FloatKind.f32.format x) * upK : Nat) : Int) := by
    show sval Ieee.double (up x) = _
    unfold sval
    rw [u1, u3]; rfl
  rw [e, ← h.2.2, hk]
  unfold sval
  split <;> simp only [Int.natCast_mul, Int.neg_mul]
theorem read_small {x : Nat} {X : Int} (h : apx x X) : ∃ m e : Nat, m < 2 ^ 24 ∧ e ≤ 253 ∧ m * 2 ^ e = X.natAbs := by
  obtain ⟨m, e, a1, a2⟩ := read_number FloatKind.f32.format h.2.1
  rw [h.units] at a2
  rw [lp32] at a1
  obtain ⟨g1, g2, g3⟩ := read32 (x := x) a1
  exact ⟨m, e, g1, by omega, a2⟩
theorem apd_word (s : Bool) {r : Nat} (hr : r < FloatKind.f64.format.infRung) : apd (FloatKind.f64.format.word s r) (if s then -(units FloatKind.f64.format r : Int) else (units FloatKind.f64.format r : Int)) := by
  obtain ⟨w1, w2⟩ := rng_word .f64 s (Nat.le_of_lt hr)
  refine ⟨by rw [w1]; exact hr, ?_⟩
  unfold sval
  rw [w2, w1]
theorem apd.units {x : Nat} {V : Int} (h : apd x V) : units FloatKind.f64.format (rng FloatKind.f64.format x) = V.natAbs := by
  have := congrArg Int.natAbs h.2
  unfold sval at this
  split at this <;> simpa using this
theorem pow_4 {p q r s : Nat} (h : p + q = r + s) : (2 : Nat) ^ p * 2 ^ q = 2 ^ r * 2 ^ s := by rw [← Nat.pow_add, ← Nat.pow_add, h]
theorem pow_1850 (a b : Nat) : a * 2 ^ 925 * (b * 2 ^ 925) = a * b * 2 ^ 776 * 2 ^ 1074 := by
  have e : (2 : Nat) ^ 925 * 2 ^ 925 = 2 ^ 776 * 2 ^ 1074 := pow_4 (p := 925) (q := 925) (r := 776) (s := 1074) rfl
  rw [Nat.mul_mul_mul_comm, e, Nat.mul_assoc (a * b)]
/-- The product of two single numbers is exact in doubles. -/
theorem apd_mul {a c : Nat} {A C : Int} (ha : apx a A) (hc : apx c C) : apd (fop .mul .f64 (up a) (up c)) (A * C * ((2 ^ 776 : Nat) : Int)) := by
  obtain ⟨m, e, m1, e1, p1⟩ := read_small ha
  obtain ⟨n, d, n1, d1, p2⟩ := read_small hc
  have ua := apd_up ha
  have uc := apd_up hc
  obtain ⟨s1, _, _⟩ := up_number (x := a) ha.2.1
  obtain ⟨s2, _, _⟩ := up_number (x := c) hc.2.1
  obtain ⟨m', e', a1, a2⟩ := read_number FloatKind.f64.format ua.1
  obtain ⟨n', d', b1, b2⟩ := read_number FloatKind.f64.format uc.1
  rw [ua.units, Int.natAbs_mul, Int.natAbs_natCast] at a2
  rw [uc.units, Int.natAbs_mul, Int.natAbs_natCast] at b2
  have hmn : m * n ≤ 2 ^ 53 := Nat.le_trans (Nat.mul_le_mul (Nat.le_of_lt m1) (Nat.le_of_lt n1)) (by decide)
  obtain ⟨r, r1, r2⟩ := er_rep64 (n := m * n) (c := e + d + 776) hmn (by omega)
  have hr : units FloatKind.f64.format r = A.natAbs * C.natAbs * 2 ^ 776 := by
    rw [r2, Nat.pow_add, Nat.pow_add, ← p1, ← p2]
    generalize 2 ^ 776 = W
    simp only [Nat.mul_assoc, Nat.mul_comm, Nat.mul_left_comm]
  have hw : fop .mul .f64 (up a) (up c) = FloatKind.f64.format.word (sgn FloatKind.f64.format (up a) ^^ sgn FloatKind.f64.format (up c)) r := by
    unfold fop floatBits Ieee.Format.mul
    simp only [a1, b1, Ieee.Datum.product, Option.map_some, Option.getD_some]
    refine nearest_units FloatKind.f64.format _ (a := 1074) (b := e' + d') (Nat.le_of_lt r1) (by rw [lp64]; omega) ?_
    rw [hr, Nat.pow_add, Nat.mul_mul_mul_comm, a2, b2]
    exact pow_1850 _ _
  rw [hw]
  have h9 := apd_word (sgn FloatKind.f64.format (up a) ^^ sgn FloatKind.f64.format (up c)) r1
  have e9 : sgn FloatKind.f64.format (up a) = sgn FloatKind.f32.format a := s1
  have e8 : sgn FloatKind.f64.format (up c) = sgn FloatKind.f32.format c := s2
  rw [e9, e8] at h9 ⊢
  obtain ⟨t1, t2⟩ := sgn_xor ha hc
  refine ⟨h9.1, h9.2.trans ?_⟩
  rw [hr, ← Int.natAbs_mul, Int.natCast_mul]
  cases hs : (sgn FloatKind.f32.format a ^^ sgn FloatKind.f32.format c)
  · have := t2 hs
    simp only [Bool.false_eq_true, if_false]
    rw [Int.natAbs_of_nonneg this]
  · have := t1 hs
    simp only [if_true]
    rw [← Int.neg_mul, Int.ofNat_natAbs_of_nonpos this, Int.neg_neg]
def D9 : Nat := 2 ^ 925
theorem D9_is : 2 ^ 925 = D9 := by unfold D9; exact Eq.refl _
theorem er_narrowD {y : Nat} {V : Int} {c : Nat} (hc : c ≤ 200) (hy : apd y V) (h : V.natAbs ≤ 2 ^ 24 * 2 ^ c * D9) :
    fover .f64 .f32 y = false ∧ ∃ Z, apx (fconv .f64 .f32 y) Z ∧ V - ((2 ^ c : Nat) : Int) * (D9 : Int) ≤ Z * (D9 : Int) ∧ Z * (D9 : Int) ≤ V + ((2 ^ c : Nat) : Int) * (D9 : Int) := by
  have h9 := er_narrow (y := y) (V := V) (c := c) hc hy.1 hy.2
  rw [D9_is] at h9
  simp only [Int.natCast_mul] at h9
  exact h9 h
def D7 : Nat := 2 ^ 776
theorem D7_is : 2 ^ 776 = D7 := by unfold D7; exact Eq.refl _
theorem pow_split {p q r : Nat} (h : p = q + r) : (2 : Nat) ^ p = 2 ^ q * 2 ^ r := by rw [h, Nat.pow_add]
theorem D9_D7 : D9 = 2 ^ 149 * D7 := by rw [← D9_is, ← D7_is]; exact pow_split (p := 925) (q := 149) (r := 776) rfl
theorem apd_mulD {a c : Nat} {A C : Int} (ha : apx a A) (hc : apx c C) : apd (fop .mul .f64 (up a) (up c)) (A * C * (D7 : Int)) := by
  have h := apd_mul ha hc
  rw [D7_is] at h
  exact h
end Go.Proofs.Ytgeflnjjppgooaa

namespace Go.Proofs.Ytgeflnjjppgooaa
open Go.RowKit
set_option maxRecDepth 20000
set_option linter.unusedSimpArgs false
/-- Written: not farther than a step of the grid. -/
theorem er_core64 (s : Bool) {m a b c : Nat} {e : Int} (hc : c ≤ 1900) (he : e + a = FloatKind.f64.format.leastPlace + b) (h : m * 2 ^ b ≤ 2 ^ 53 * 2 ^ c * 2 ^ a) :
    ∃ r, FloatKind.f64.format.nearest s m e = FloatKind.f64.format.word s r ∧ r < FloatKind.f64.format.infRung ∧ units FloatKind.f64.format r * 2 ^ a ≤ m * 2 ^ b + 2 ^ c * 2 ^ a ∧ m * 2 ^ b ≤ units FloatKind.f64.format r * 2 ^ a + 2 ^ c * 2 ^ a := by
  have hp : 0 < 2 ^ c * 2 ^ a := Nat.mul_pos (pow_pos' _) (pow_pos' _)
  generalize hG : 2 ^ c * 2 ^ a = G at *
  rw [Nat.mul_assoc, hG] at h
  generalize hN : m * 2 ^ b = N at *
  have hn1 : N / G ≤ 2 ^ 53 := Nat.div_le_of_le_mul (by rw [Nat.mul_comm]; exact h)
  have hdm := Nat.div_add_mod N G
  have hml := Nat.mod_lt N hp
  obtain ⟨r1, a1, a2⟩ := er_rep64 hn1 hc
  obtain ⟨t1, b1, b2, b3⟩ := nearest_ge FloatKind.f64.format s (m := m) (r := r1) (a := a) (b := b) (Nat.le_of_lt a1) he (by rw [a2, Nat.mul_assoc, hG, hN, Nat.mul_comm]; omega)
  -- the upper one
  obtain ⟨r2, c1, c2, c3⟩ : ∃ r2, r2 < FloatKind.f64.format.infRung ∧ N ≤ units FloatKind.f64.format r2 * 2 ^ a ∧ units FloatKind.f64.format r2 * 2 ^ a ≤ N + G := by
    by_cases hz : N % G = 0
    · exact ⟨r1, a1, by rw [a2, Nat.mul_assoc, hG, Nat.mul_comm]; omega, by rw [a2, Nat.mul_assoc, hG, Nat.mul_comm]; omega⟩
    · have hn2 : N / G + 1 ≤ 2 ^ 53 := by
        rcases Nat.lt_or_ge (N / G) (2 ^ 53) with h1 | h1
        · exact h1
        · have : G * (2 ^ 53) ≤ G * (N / G) := Nat.mul_le_mul_left _ h1
          rw [Nat.mul_comm] at this
          omega
      obtain ⟨r2, d1, d2⟩ := er_rep64 hn2 hc
      have e2 : (N / G + 1) * G = G * (N / G) + G := by rw [Nat.add_mul, Nat.one_mul, Nat.mul_comm]
      exact ⟨r2, d1, by rw [d2, Nat.mul_assoc, hG, e2]; omega, by rw [d2, Nat.mul_assoc, hG, e2]; omega⟩
  obtain ⟨t2, d1, d2⟩ := nearest_le FloatKind.f64.format s (m := m) (r := r2) (a := a) (b := b) he (by rw [hN]; exact c2)
  have ht : t1 = t2 := by
    have h1 := rng_word .f64 s (r := t1) b3
    have h2 := rng_word .f64 s (r := t2) (by omega)
    rw [← h1.1, ← h2.1, ← b1, ← d1]
  subst ht
  have m1 := Nat.mul_le_mul_right (2 ^ a) (units_mono FloatKind.f64.format b2)
  have m2 := Nat.mul_le_mul_right (2 ^ a) (units_mono FloatKind.f64.format d2)
  rw [a2, Nat.mul_assoc, hG, Nat.mul_comm] at m1
  exact ⟨t1, b1, by omega, by omega, by omega⟩
theorem apd.sgn {x : Nat} {X : Int} (h : apd x X) : (sgn FloatKind.f64.format x = true → X ≤ 0) ∧ (sgn FloatKind.f64.format x = false → 0 ≤ X) := by
  have := h.2
  unfold sval at this
  constructor <;> intro hs <;> rw [hs] at this <;> simp at this <;> omega
end Go.Proofs.Ytgeflnjjppgooaa

namespace Go.Proofs.Ytgeflnjjppgooaa
open Go.RowKit
abbrev CP := Nat × Nat
section
variable {P : Program} {w0 : World} {O : List Ent} {E : Env} {o : Oper}
end
end Go.Proofs.Ytgeflnjjppgooaa

namespace Go.Proofs.Ytgeflnjjppgooaa
open Go.RowKit
def WW : Rat := ((16777216 * UU : Int) : Rat)
theorem WW_is : WW = 16777216 * ((UU : Int) : Rat) := by unfold WW; rw [Rat.intCast_mul]; rfl
theorem WW_pos : 0 < WW := by
  unfold WW
  have := UU_pos
  have h : (0 : Int) < 16777216 * UU := by omega
  have h2 := (Rat.intCast_lt_intCast (a := 0) (b := 16777216 * UU)).2 h
  exact h2
def qv (x : Nat) (q : Rat) : Prop := ∃ X : Int, apx x X ∧ (X : Rat) = q * WW
theorem i_of_q {A B : Int} {a b : Rat} (hA : (A : Rat) = a * WW) (hB : (B : Rat) = b * WW) (h : a ≤ b) : A ≤ B := by
  rw [← Rat.intCast_le_intCast, hA, hB]
  exact Rat.mul_le_mul_of_nonneg_right h (Rat.le_of_lt WW_pos)
theorem q_of_i {A B : Int} {a b : Rat} (hA : (A : Rat) = a * WW) (hB : (B : Rat) = b * WW) (h : A ≤ B) : a ≤ b := by
  rw [← Rat.intCast_le_intCast, hA, hB] at h
  exact Rat.le_of_mul_le_mul_right h WW_pos
theorem WW2_pos : 0 < WW * WW := Rat.mul_pos WW_pos WW_pos
theorem i_of_q2 {A B : Int} {a b : Rat} (hA : (A : Rat) = a * (WW * WW)) (hB : (B : Rat) = b * (WW * WW)) (h : a ≤ b) : A ≤ B := by
  rw [← Rat.intCast_le_intCast, hA, hB]
  exact Rat.mul_le_mul_of_nonneg_right h (Rat.le_of_lt WW2_pos)
theorem q_of_i2 {A B : Int} {a b : Rat} (hA : (A : Rat) = a * (WW * WW)) (hB : (B : Rat) = b * (WW * WW)) (h : A ≤ B) : a ≤ b := by
  rw [← Rat.intCast_le_intCast, hA, hB] at h
  exact Rat.le_of_mul_le_mul_right h WW2_pos
/-- K is a power of two, not too great. -/
def pw2 (k : Nat) (K : Rat) : Prop := K = ((2 ^ k : Nat) : Rat)
theorem pw2_int {k : Nat} {K : Rat} (h : pw2 k K) : ∃ J : Int, ((2 ^ k : Nat) : Int) = J ∧ (J : Rat) = K := ⟨_, rfl, by rw [h]; rfl⟩
section
variable {x y : Nat} {p q K : Rat} {k : Nat}
theorem qv_add (hK : pw2 k K) (hk : k ≤ 70) (hx : qv x p) (hy : qv y q) (h1 : -K ≤ p + q) (h2 : p + q ≤ K) : ∃ z, qv (fop .add .f32 x y) z ∧ p + q - K / 16777216 ≤ z ∧ z ≤ p + q + K / 16777216 := by
  obtain ⟨X, hX, eX⟩ := hx
  obtain ⟨Y, hY, eY⟩ := hy
  obtain ⟨J, hJ, rfl⟩ := pw2_int hK
  have hw := WW_is
  have hp := WW_pos
  obtain ⟨Z, z1, z2, z3⟩ := er_add k hJ hk hX hY
    (i_of_q (a := -(J : Rat)) (b := p + q) (by push_cast; grind) (by push_cast; grind) h1) (i_of_q (a := p + q) (b := (J : Rat)) (by push_cast; grind) (by push_cast; grind) h2)
  refine ⟨(Z : Rat) / WW, ⟨Z, z1, by grind⟩, q_of_i (B := Z) ?_ (by grind) z2, q_of_i (A := Z) (by grind) ?_ z3⟩
  · push_cast; grind
  · push_cast; grind
theorem qv_sub (hK : pw2 k K) (hk : k ≤ 70) (hx : qv x p) (hy : qv y q) (h1 : -K ≤ p - q) (h2 : p - q ≤ K) : ∃ z, qv (fop .sub .f32 x y) z ∧ p - q - K / 16777216 ≤ z ∧ z ≤ p - q + K / 16777216 := by
  obtain ⟨X, hX, eX⟩ := hx
  obtain ⟨Y, hY, eY⟩ := hy
  obtain ⟨J, hJ, rfl⟩ := pw2_int hK
  have hw := WW_is
  have hp := WW_pos
  obtain ⟨Z, z1, z2, z3⟩ := er_sub k hJ hk hX hY
    (i_of_q (a := -(J : Rat)) (b := p - q) (by push_cast; grind) (by push_cast; grind) h1) (i_of_q (a := p - q) (b := (J : Rat)) (by push_cast; grind) (by push_cast; grind) h2)
  refine ⟨(Z : Rat) / WW, ⟨Z, z1, by grind⟩, q_of_i (B := Z) ?_ (by grind) z2, q_of_i (A := Z) (by grind) ?_ z3⟩
  · push_cast; grind
  · push_cast; grind
theorem qv_mul (hK : pw2 k K) (hk : k ≤ 70) (hx : qv x p) (hy : qv y q) (h1 : -K ≤ p * q) (h2 : p * q ≤ K) : ∃ z, qv (fop .mul .f32 x y) z ∧ p * q - K / 16777216 ≤ z ∧ z ≤ p * q + K / 16777216 := by
  obtain ⟨X, hX, eX⟩ := hx
  obtain ⟨Y, hY, eY⟩ := hy
  obtain ⟨J, hJ, rfl⟩ := pw2_int hK
  have hw := WW_is
  have hp := WW_pos
  obtain ⟨Z, z1, z2, z3⟩ := er_mul k hJ hk hX hY
    (i_of_q2 (a := -(J : Rat)) (b := p * q) (by push_cast; grind) (by push_cast; grind) h1) (i_of_q2 (a := p * q) (b := (J : Rat)) (by push_cast; grind) (by push_cast; grind) h2)
  refine ⟨(Z : Rat) / WW, ⟨Z, z1, by grind⟩, q_of_i2 ?_ ?_ z2, q_of_i2 ?_ ?_ z3⟩
  · push_cast; grind
  · push_cast; grind
  · push_cast; grind
  · push_cast; grind
end
end Go.Proofs.Ytgeflnjjppgooaa

namespace Go.Proofs.Ytgeflnjjppgooaa
open Go.RowKit
def W9 : Rat := WW * ((D9 : Nat) : Rat)
theorem D9_pos : 0 < D9 := by rw [← D9_is]; exact pow_pos' 925
attribute [local irreducible] D9 D7 UU
theorem D9r_pos : (0 : Rat) < ((D9 : Nat) : Rat) := by
  have := (Rat.intCast_lt_intCast (a := 0) (b := ((D9 : Nat) : Int))).2 (by have := D9_pos; omega)
  exact this
theorem W9_pos : 0 < W9 := Rat.mul_pos WW_pos D9r_pos
theorem WW_149 : WW = ((2 ^ 149 : Nat) : Rat) := by
  unfold WW
  rw [BB_is]; rfl
theorem W9_pow {P : Nat} (hP : P = 1074) : W9 = ((2 ^ P : Nat) : Rat) := by
  have h := pow_split (p := P) (q := 149) (r := 925) (by omega)
  rw [D9_is] at h
  unfold W9
  rw [WW_149, ← Rat.natCast_mul, h]
theorem W9_D7 : W9 = WW * WW * ((D7 : Nat) : Rat) := by
  unfold W9
  rw [D9_D7, Rat.natCast_mul, ← WW_149]
  grind
def dv (x : Nat) (q : Rat) : Prop := ∃ V : Int, apd x V ∧ (V : Rat) = q * W9
section
variable {x y : Nat} {p q K : Rat} {k : Nat}
theorem dv_mul (hx : qv x p) (hy : qv y q) : dv (fop .mul .f64 (up x) (up y)) (p * q) := by
  obtain ⟨X, hX, eX⟩ := hx
  obtain ⟨Y, hY, eY⟩ := hy
  refine ⟨_, apd_mulD hX hY, ?_⟩
  rw [W9_D7]
  push_cast
  rw [eX, eY]
  generalize (D7 : Rat) = d
  grind
theorem abs_int {X : Int} {m c : Rat} (h1 : -c ≤ (X : Rat)) (h2 : (X : Rat) ≤ c) (hm : c = m) : ((X.natAbs : Nat) : Rat) ≤ m := by
  subst hm
  rcases Int.natAbs_eq X with h | h
  · have : ((X.natAbs : Nat) : Rat) = ((X : Int) : Rat) := by
      have := congrArg (fun z : Int => (z : Rat)) h
      exact this.symm
    rw [this]; exact h2
  · have : ((X.natAbs : Nat) : Rat) = -((X : Int) : Rat) := by
      have h3 : ((X.natAbs : Nat) : Int) = -X := by omega
      have := congrArg (fun z : Int => (z : Rat)) h3
      simp only [Rat.intCast_neg] at this
      exact this
    rw [this]; grind
theorem nat_of_q {a b : Nat} (h : (a : Rat) ≤ (b : Rat)) : a ≤ b := by
  have := (Rat.intCast_le_intCast (a := (a : Int)) (b := (b : Int))).1 h
  omega
theorem dv_narrow (hK : pw2 k K) (hk : k ≤ 70) (hx : dv x p) (h1 : -K ≤ p) (h2 : p ≤ K) : fover .f64 .f32 x = false ∧ ∃ z, qv (fconv .f64 .f32 x) z ∧ p - K / 16777216 ≤ z ∧ z ≤ p + K / 16777216 := by
  obtain ⟨X, hX, eX⟩ := hx
  have hp := W9_pos
  have hq := D9r_pos
  have e24 : ((2 ^ 24 * 2 ^ (125 + k) : Nat) : Rat) = K * WW := by
    rw [hK, WW_149, ← Rat.natCast_mul, ← Nat.pow_add, ← Nat.pow_add]
    congr 2; omega
  have e25 : ((2 ^ (125 + k) : Nat) : Rat) = K * WW / 16777216 := by
    rw [← e24, Rat.natCast_mul]
    have : ((2 ^ 24 : Nat) : Rat) = 16777216 := by rfl
    rw [this]; grind
  obtain ⟨a1, Z, a2, a3, a4⟩ := er_narrowD (c := 125 + k) (by omega) hX (nat_of_q (by
    rw [Rat.natCast_mul, e24]
    refine abs_int (c := K * W9) ?_ ?_ (by unfold W9; grind)
    · rw [eX]
      have := Rat.mul_le_mul_of_nonneg_right h1 (Rat.le_of_lt hp)
      grind
    · rw [eX]
      exact Rat.mul_le_mul_of_nonneg_right h2 (Rat.le_of_lt hp)))
  obtain ⟨z, hz⟩ : ∃ z : Rat, (Z : Rat) = z * WW := ⟨(Z : Rat) / WW, by have := WW_pos; grind⟩
  refine ⟨a1, z, ⟨Z, a2, hz⟩, ?_, ?_⟩
  · have := (Rat.intCast_le_intCast).2 a3
    simp only [Rat.intCast_sub, Rat.intCast_mul, Rat.intCast_natCast] at this
    rw [e25, eX, hz] at this
    unfold W9 at this hp
    have hw := WW_pos
    refine Rat.le_of_mul_le_mul_right (c := WW * ((D9 : Nat) : Rat)) ?_ hp
    generalize ((D9 : Nat) : Rat) = d at *
    grind
  · have := (Rat.intCast_le_intCast).2 a4
    simp only [Rat.intCast_add, Rat.intCast_mul, Rat.intCast_natCast] at this
    rw [e25, eX, hz] at this
    unfold W9 at this hp
    have hw := WW_pos
    refine Rat.le_of_mul_le_mul_right (c := WW * ((D9 : Nat) : Rat)) ?_ hp
    generalize ((D9 : Nat) : Rat) = d at *
    grind
end
end Go.Proofs.Ytgeflnjjppgooaa

namespace Go.Proofs.Ytgeflnjjppgooaa
open Go.RowKit
attribute [local irreducible] D9 D7 UU WW W9
section
variable {p q : CP} {a b K : Rat} {k : Nat}
end
section
variable {x y : Nat} {p q : Rat}
theorem qv_cmp {X Y : Int} (hx : apx x X) (hy : apx y Y) : FloatKind.f32.format.order x y = some (compare X Y) := by
  rw [order_number hx.2.1 hy.2.1, hx.2.2, hy.2.2]
theorem qv_gt (hx : qv x p) (hy : qv y q) (h : q < p) : fcmp .gtr .f32 x y = true := by
  obtain ⟨X, hX, eX⟩ := hx
  obtain ⟨Y, hY, eY⟩ := hy
  show (FloatKind.f32.format.order x y == some .gt) = true
  have : Y < X := by
    rcases (by omega : Y < X ∨ X ≤ Y) with g | g
    · exact g
    · have := q_of_i eX eY g; grind
  rw [qv_cmp hX hY, Int.compare_eq_gt.2 this]; rfl
theorem qv_ngt (hx : qv x p) (hy : qv y q) (h : p ≤ q) : fcmp .gtr .f32 x y = false := by
  obtain ⟨X, hX, eX⟩ := hx
  obtain ⟨Y, hY, eY⟩ := hy
  show (FloatKind.f32.format.order x y == some .gt) = false
  have := i_of_q eX eY h
  rw [qv_cmp hX hY]
  rcases Int.lt_trichotomy X Y with h | h | h
  · rw [Int.compare_eq_lt.2 h]; rfl
  · rw [compare_eq.2 h]; rfl
  · omega
/-- Multiples of a 128th. -/
theorem qv_dy {v : Int} (h : dy .f32 x v) : qv x ((v : Rat) / 128) := by
  refine ⟨_, apx_dy h, ?_⟩
  have e : (2 : Int) ^ dyU .f32 * 128 = 16777216 * UU := by
    rw [BB_is]; decide
  have e2 := congrArg (fun z : Int => (z : Rat)) e
  simp only [Rat.intCast_mul] at e2
  have e3 : WW = (((2 : Int) ^ dyU .f32 : Int) : Rat) * 128 := by
    unfold WW
    rw [← e, Rat.intCast_mul]; rfl
  rw [Rat.intCast_mul, e3]
  generalize (((2 : Int) ^ dyU .f32 : Int) : Rat) = u
  grind
end
end Go.Proofs.Ytgeflnjjppgooaa

namespace Go.Proofs.Ytgeflnjjppgooaa
open Go.RowKit
attribute [local irreducible] D9 D7 UU WW W9
def Rg (a A : Rat) : Prop := -A ≤ a ∧ a ≤ A
theorem rmul {a b A B : Rat} (h1 : Rg a A) (h2 : Rg b B) : Rg (a * b) (A * B) := by
  obtain ⟨h1, h2'⟩ := h1
  obtain ⟨h3, h4⟩ := h2
  have g1 := Rat.mul_nonneg (show 0 ≤ A - a by grind) (show 0 ≤ B - b by grind)
  have g2 := Rat.mul_nonneg (show 0 ≤ A + a by grind) (show 0 ≤ B + b by grind)
  have g3 := Rat.mul_nonneg (show 0 ≤ A - a by grind) (show 0 ≤ B + b by grind)
  have g4 := Rat.mul_nonneg (show 0 ≤ A + a by grind) (show 0 ≤ B - b by grind)
  exact ⟨by grind, by grind⟩
section
variable {p q : CP} {a b A B S c d u D K : Rat} {k : Nat}
theorem Rg.mono (h : Rg a A) (hAB : A ≤ B) : Rg a B := ⟨by have := h.1; grind, by have := h.2; grind⟩
theorem Rg.add (h1 : Rg a A) (h2 : Rg b B) : Rg (a + b) (A + B) := ⟨by have := h1.1; have := h2.1; grind, by have := h1.2; have := h2.2; grind⟩
theorem Rg.sub (h1 : Rg a A) (h2 : Rg b B) : Rg (a - b) (A + B) := ⟨by have := h1.1; have := h2.2; grind, by have := h1.2; have := h2.1; grind⟩
theorem pw2_mul (j : Nat) {J : Rat} (hJ : ((2 ^ j : Nat) : Rat) = J) (h : pw2 k K) : pw2 (k + j) (J * K) := by
  unfold pw2 at *
  rw [h, ← hJ, ← Rat.natCast_mul, ← Nat.pow_add, Nat.add_comm]
theorem pw2_nn (h : pw2 k K) : 0 ≤ K := by rw [h]; exact Rat.natCast_nonneg
theorem p64 : pw2 6 64 := rfl
end
end Go.Proofs.Ytgeflnjjppgooaa
