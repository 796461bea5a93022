/- Own texts of this claim, merged: QWBlock, QWSquare, QWRidge, Nrm, QWNormal, Za, Ya, Yb, Yc. -/
import Derived.KernelRfl
import Derived.Conc.DeferLaws
import Derived.Conc.Beside
import Derived.Conc.CrowdRun
import Derived.Test.YtgeflnjjppgooaaKFnFitted5
namespace Go.Proofs.Ytgeflnjjppgooaa.Q
open Go.RowKit
set_option linter.unusedVariables false
set_option linter.unusedSimpArgs false
set_option maxRecDepth 20000
set_option maxHeartbeats 800000
attribute [local irreducible] wqList Wq
theorem sz22_Block : (Try.prog.info? 22).map (·.size) = some 1 := by kernel_rfl
theorem fb22_Block : flatB Try.prog 22 = true := by kernel_rfl
theorem sz23_Block : (Try.prog.info? 23).map (·.size) = some 1 := by kernel_rfl
theorem fb23_Block : flatB Try.prog 23 = true := by kernel_rfl
theorem elt26_Block : Elt Try.prog 26 [Value.float .f32 0] 4 := Elt.mk' (by kernel_rfl) (by decide)
theorem mixed_Block : Try.prog.follows .mixedOrders = true := by kernel_rfl
theorem sz26_Block : (Try.prog.info? 26).map (·.size) = some 1 := by kernel_rfl
theorem fb26_Block : flatB Try.prog 26 = true := by kernel_rfl
theorem known98_Block : Known Try.prog 98 := Known.mk' Try.func98 (by kernel_rfl)
theorem known97_Block : Known Try.prog 97 := Known.mk' Try.func97 (by kernel_rfl)
theorem sz30_Block : (Try.prog.info? 30).map (·.size) = some 3 := by kernel_rfl
theorem known27_Block : Known Try.prog 27 := Known.mk' Try.func27 (by kernel_rfl)
theorem known44_Block : Known Try.prog 44 := Known.mk' Try.func44 (by kernel_rfl)
theorem known43_Block : Known Try.prog 43 := Known.mk' Try.func43 (by kernel_rfl)
theorem known47_Block : Known Try.prog 47 := Known.mk' Try.func47 (by kernel_rfl)
theorem c_l07Blocks [PhC] {w : World} {q : Option Addr} {a a1 a2 : Option Addr} {c c1 c2 : Nat} {xss : List (List Nat)} {ws gs : List Nat} (hQ : Cl w q [.slice a xss.length c, .slice a1 ws.length c1, .slice a2 gs.length c2]) (hxl : xss.length ≤ 1050000) : Pure Try.prog 70 [.pointer (some (adr q 0))] w (.int .i64 ((blocksN xss.length : Nat) : Int)) := by
  refine Pure.enter Try.func70 rfl Try.ntmps70 (Nat.le_of_ble_eq_true rfl) ?_
  refine V.seq (V.region ?_)
  refine vr (yr_assign (u := .int .i64 0) rfl rfl) ?_
  refine VL.nil (VE.then_wp (V.seq (V.region ?_)))
  refine vr (yr_move rfl rfl) ?_
  refine vr (yr_nilCheck rfl rfl) ?_
  refine vr (yr_fieldAddr rfl Try.underlying30 rfl rfl sz22_Block (by decide) rfl) ?_
  refine vq (yq_load rfl fb22_Block rfl zz0 rfl) ?_
  refine vr (yr_len rfl Try.underlying22 rfl) ?_
  refine vr (yr_int rfl rfl rfl (.inl ⟨rfl, wrap_in (by omega)⟩)) ?_
  refine vr (yr_int rfl rfl rfl (.inr (.inl ⟨rfl, wrap_in (by omega)⟩))) ?_
  refine vr (yr_quo rfl rfl rfl (by omega) (wrap_quo (by omega))) ?_
  refine vr (yr_assign rfl rfl) ?_
  refine VL.nil (VE.then_wp (V.ret ?_))
  refine ret1 rfl rfl (fun w1 hw => ?_)
  exact ⟨congrArg (Value.int .i64) (by unfold blocksN; rw [show ((xss.length : Int) + 8 - 1) = ((xss.length + 7 : Nat) : Int) by omega]; exact (Int.ofNat_tdiv _ _).symm), hw.below⟩
theorem c_blocks [PhC] {w : World} {a a1 a2 : Option Addr} {c c1 c2 : Nat} {xss : List (List Nat)} {ws gs : List Nat} (hxl : xss.length ≤ 1050000) : Pure Try.prog 44 [.agg #[.slice a xss.length c, .slice a1 ws.length c1, .slice a2 gs.length c2]] w (.int .i64 ((blocksN xss.length : Nat) : Int)) := by
  refine Pure.enter Try.func44 rfl Try.ntmps44 (Nat.le_of_ble_eq_true rfl) ?_
  refine V.seq (V.region ?_)
  refine VL.new1 (.inl rfl) rfl (by decide) (yn_box rfl rfl (.inr ⟨rfl, rfl⟩)) ?_
  intro b1
  refine vr (yr_assign (u := .int .i64 0) rfl rfl) ?_
  refine VL.nil (VE.then_wp (V.seq (V.region ?_)))
  refine vr (yr_fieldAddr rfl Try.underlying30 rfl rfl sz22_Block (by decide) rfl) ?_
  refine vq (yq_load rfl fb22_Block rfl zz0 rfl) ?_
  refine vr (yr_len rfl Try.underlying22 rfl) ?_
  refine vr (yr_int rfl rfl rfl (.inl ⟨rfl, wrap_in (by omega)⟩)) ?_
  refine vr (yr_int rfl rfl rfl (.inr (.inl ⟨rfl, wrap_in (by omega)⟩))) ?_
  refine vr (yr_quo rfl rfl rfl (by omega) (wrap_quo (by omega))) ?_
  refine vr (yr_assign rfl rfl) ?_
  refine VL.nil (VE.then_wp (V.ret ?_))
  refine ret1 rfl rfl (fun w1 hw => ?_)
  exact ⟨congrArg (Value.int .i64) (by unfold blocksN; rw [show ((xss.length : Int) + 8 - 1) = ((xss.length + 7 : Nat) : Int) by omega]; exact (Int.ofNat_tdiv _ _).symm), hw.below⟩
theorem c_l07Block [PhC] {w : World} {q : Option Addr} {a a1 a2 : Option Addr} {c c1 c2 : Nat} {f : Nat → Option Addr × Nat} {xss : List (List Nat)} {ws gs : List Nat} {fr cnt : Nat} {fi ci : Int} (hQ : Cl w q [.slice a xss.length c, .slice a1 ws.length c1, .slice a2 gs.length c2]) (hA : Cl w a (hd f xss)) (hR : Rws w f xss) (hW : Cl w a1 (fl ws)) (hG : Cl w a2 (fl gs)) (hsz : bulk xss + ws.length + gs.length ≤ 1050000) (hval : ValidP xss ws gs) (hfc : fr + cnt ≤ xss.length) (hfi : fi = (fr : Int)) (hci : ci = (cnt : Int)) : New Try.prog 97 [.pointer (some (adr q 0)), .int .i64 fi, .int .i64 ci] w (fun p : Nat × Nat => .tuple #[.slice (some ⟨p.1, 0, none⟩) ((xss.getD 0 []).length * (xss.getD 0 []).length) ((xss.getD 0 []).length * (xss.getD 0 []).length), .slice (some ⟨p.2, 0, none⟩) (xss.getD 0 []).length (xss.getD 0 []).length]) (fun p => [⟨some ⟨p.2, 0, none⟩, fl (blockB xss ws gs fr cnt (xss.getD 0 []).length), (xss.getD 0 []).length * 1, 26⟩, ⟨some ⟨p.1, 0, none⟩, fl (blockA xss gs fr cnt (xss.getD 0 []).length), ((xss.getD 0 []).length * (xss.getD 0 []).length) * 1, 26⟩]) := by
  subst hfi
  subst hci
  refine New.enter Try.func97 rfl Try.ntmps97 (Nat.le_of_ble_eq_true rfl) ?_
  have hr : ∀ i, i < xss.length → (xss.getD i []).length ≤ 1050000 := fun i hi => by have := bulk_row hi; omega
  have hxl : xss.length ≤ bulk xss := by unfold bulk; omega
  obtain ⟨v1, v2, v3, v4, v5, v6, v7, v8⟩ := hval
  have hN : ∀ i, i < xss.length → (xss.getD i []).length = (xss.getD 0 []).length := fun i hi => (v6 i hi).1
  have hnn : (xss.getD 0 []).length * (xss.getD 0 []).length ≤ 64 := Nat.mul_le_mul v8 v8
  have hix : ∀ {j k : Nat}, j < (xss.getD 0 []).length → k < (xss.getD 0 []).length → j * (xss.getD 0 []).length + k < (xss.getD 0 []).length * (xss.getD 0 []).length := idx_lt
  refine V.seq (V.region ?_)
  refine vr (yr_assign (u := .slice none 0 0) rfl rfl) ?_
  refine vr (yr_assign (u := .slice none 0 0) rfl rfl) ?_
  refine VL.nil (VE.then_wp (V.seq (V.region ?_)))
  refine vr (yr_move rfl rfl) ?_
  refine vr (yr_nilCheck rfl rfl) ?_
  refine vr (yr_fieldAddr rfl Try.underlying30 rfl rfl sz22_Block (by decide) rfl) ?_
  refine vq (yq_load rfl fb22_Block rfl zz0 rfl) ?_
  refine vq (yq_idx (k := 0) rfl Try.underlying22 sz23_Block rfl rfl zz0 zz3 zz13 (by omega)) ?_
  refine vq (yq_loadH rfl fb23_Block rfl zz0 (by omega)) ?_
  refine vr (yr_len rfl Try.underlying23 rfl) ?_
  refine vr (yr_assign rfl rfl) ?_
  refine VL.nil (VE.then_wp (V.seq (V.region ?_)))
  refine vr (yr_move rfl rfl) ?_
  refine vr (yr_move rfl rfl) ?_
  refine vr (yr_mulN (xss.getD 0 []).length (xss.getD 0 []).length rfl rfl rfl (by omega) (by omega) (Nat.le_trans (mul_small (by omega) (by omega)) (by decide))) ?_
  refine VL.new1 (.inl rfl) rfl (by decide) (yn_makeSlicez 1 rfl rfl Try.underlying23 elt26_Block rfl rfl rfl (by omega) (by omega)) ?_
  intro b26
  refine vr (yr_assign rfl rfl) ?_
  refine VL.nil (VE.then_wp (V.seq (V.region ?_)))
  refine vr (yr_move rfl rfl) ?_
  refine VL.new1 (.inl rfl) rfl (by decide) (yn_makeSlicez 1 rfl rfl Try.underlying23 elt26_Block rfl rfl rfl (by omega) (by omega)) ?_
  intro b28
  refine vr (yr_assign rfl rfl) ?_
  refine VL.nil (VE.then_wp (V.seq (V.seq (V.region ?_))))
  refine vr (yr_move rfl rfl) ?_
  refine vr (yr_assign rfl rfl) ?_
  refine VL.nil (VE.then_wp (V.block ?_))
  refine V.loopc (G := Nat × (List Nat) × (List Nat)) [(0, _), (1, _), (2, _), (8, _), (9, _), (10, _)] (fun ⟨i, A, B⟩ => i ≤ cnt ∧ A.length = (xss.getD 0 []).length * (xss.getD 0 []).length ∧ B.length = (xss.getD 0 []).length ∧ (∀ j k, j < (xss.getD 0 []).length → k < (xss.getD 0 []).length → A.getD (j * (xss.getD 0 []).length + k) 0 = blkA xss gs fr j k i) ∧ ∀ j, j < (xss.getD 0 []).length → B.getD j 0 = blkB xss ws gs fr j i) (fun ⟨i, A, B⟩ => [⟨some ⟨b28, 0, none⟩, fl B, (xss.getD 0 []).length * 1, 26⟩, ⟨some ⟨b26, 0, none⟩, fl A, ((xss.getD 0 []).length * (xss.getD 0 []).length) * 1, 26⟩]) (fun ⟨i, A, B⟩ => [(11, .int .i64 ((fr + i : Nat) : Int))]) (fun ⟨i, A, B⟩ => cnt - i) (0, List.replicate ((xss.getD 0 []).length * (xss.getD 0 []).length) 0, List.replicate (xss.getD 0 []).length 0) (.cons rfl (.cons rfl (.cons rfl (.cons rfl (.cons rfl (.cons rfl .nil)))))) (.cons (congrArg (fun i => some (Value.int .i64 i)) (by omega)) .nil) ?_ ?_ ?_
  · exact (fun w hw => by rw [fl_zeros, fl_zeros] at hw; exact hw)
  · exact (by refine ⟨by omega, by simp, by simp, fun j k _ _ => ?_, fun j _ => ?_⟩ <;> rw [replicate_getD] <;> rfl)
  rintro ⟨i, A, B⟩ ⟨hi, hAl, hBl, hA2, hB2⟩
  show V _ _ _ [⟨some ⟨b28, 0, none⟩, fl B, (xss.getD 0 []).length * 1, 26⟩, ⟨some ⟨b26, 0, none⟩, fl A, ((xss.getD 0 []).length * (xss.getD 0 []).length) * 1, 26⟩] ([(11, .int .i64 ((fr + i : Nat) : Int))] ++ [(0, _), (1, _), (2, _), (8, _), (9, _), (10, _)]) _ _
  have hrl := fun h => hN (fr + i) h
  refine V.seq (V.seq (V.region ?_))
  refine vr (yr_move rfl rfl) ?_
  refine vr (yr_move rfl rfl) ?_
  refine vr (yr_move rfl rfl) ?_
  refine vr (yr_int rfl rfl rfl (.inl ⟨rfl, wrap_in (by omega)⟩)) ?_
  refine vr (yr_icmp rfl (.inr (.inr (.inl rfl))) rfl rfl) ?_
  refine VL.nil (VE.then_wp ?_)
  refine V.cond rfl (fun h1 => ?_) (fun h1 => ?_)
  · skip
    replace h1 := ic_lss h1
    refine V.skip (VE.then_wp (V.seq (V.block (V.seq (V.region ?_)))))
    refine vr (yr_move rfl rfl) ?_
    refine vr (yr_nilCheck rfl rfl) ?_
    refine vr (yr_fieldAddr rfl Try.underlying30 rfl rfl sz22_Block (by decide) rfl) ?_
    refine vq (yq_load rfl fb22_Block rfl zz0 rfl) ?_
    refine vr (yr_move rfl rfl) ?_
    refine vq (yq_idx (k := (fr + i)) rfl Try.underlying22 sz23_Block rfl rfl zz0 zz3 zz13 (by omega)) ?_
    refine vq (yq_loadH rfl fb23_Block rfl zz0 (by omega)) ?_
    refine vr (yr_assign rfl rfl) ?_
    refine VL.nil (VE.then_wp (V.seq (V.region ?_)))
    refine vr (yr_assign (u := .int .i64 0) rfl rfl) ?_
    refine VL.nil (VE.then_wp (V.block ?_))
    refine V.loopc (G := Nat × (List Nat) × (List Nat)) [(0, _), (1, _), (2, _), (8, _), (9, _), (10, _), (11, _), (12, _)] (fun ⟨j, A1, B1⟩ => j ≤ (xss.getD 0 []).length ∧ A1.length = (xss.getD 0 []).length * (xss.getD 0 []).length ∧ B1.length = (xss.getD 0 []).length ∧ (∀ j1 k1, j1 < (xss.getD 0 []).length → k1 < (xss.getD 0 []).length → A1.getD (j1 * (xss.getD 0 []).length + k1) 0 = blkA xss gs fr j1 k1 (if j1 < j then i + 1 else i)) ∧ ∀ j1, j1 < (xss.getD 0 []).length → B1.getD j1 0 = blkB xss ws gs fr j1 (if j1 < j then i + 1 else i)) (fun ⟨j, A1, B1⟩ => [⟨some ⟨b28, 0, none⟩, fl B1, (xss.getD 0 []).length * 1, 26⟩, ⟨some ⟨b26, 0, none⟩, fl A1, ((xss.getD 0 []).length * (xss.getD 0 []).length) * 1, 26⟩]) (fun ⟨j, A1, B1⟩ => [(13, .int .i64 (j : Int))]) (fun ⟨j, A1, B1⟩ => (xss.getD 0 []).length - j) (0, A, B) (.cons rfl (.cons rfl (.cons rfl (.cons rfl (.cons rfl (.cons rfl (.cons rfl (.cons rfl .nil)))))))) (.cons rfl .nil) ?_ ?_ ?_
    · exact (fun w hw => hw)
    · exact (by exact ⟨by omega, hAl, hBl, fun j1 k1 h1 h2 => by rw [hA2 j1 k1 h1 h2, if_neg (by omega)], fun j1 h1 => by rw [hB2 j1 h1, if_neg (by omega)]⟩)
    rintro ⟨j, A1, B1⟩ ⟨hj, hA1l, hB1l, hA3, hB3⟩
    show V _ _ _ [⟨some ⟨b28, 0, none⟩, fl B1, (xss.getD 0 []).length * 1, 26⟩, ⟨some ⟨b26, 0, none⟩, fl A1, ((xss.getD 0 []).length * (xss.getD 0 []).length) * 1, 26⟩] ([(13, .int .i64 (j : Int))] ++ [(0, _), (1, _), (2, _), (8, _), (9, _), (10, _), (11, _), (12, _)]) _ _
    have hixj := fun (h : j < (xss.getD 0 []).length) (k : Nat) (hk : k < (xss.getD 0 []).length) => hix h hk
    refine V.seq (V.seq (V.region ?_))
    refine vr (yr_move rfl rfl) ?_
    refine vr (yr_move rfl rfl) ?_
    refine vr (yr_icmp rfl (.inr (.inr (.inl rfl))) rfl rfl) ?_
    refine VL.nil (VE.then_wp ?_)
    refine V.cond rfl (fun h2 => ?_) (fun h2 => ?_)
    · skip
      replace h2 := ic_lss h2
      refine V.skip (VE.then_wp (V.seq (V.block (V.seq ?_))))
      refine V.draw [(0, 0), (1, 0), (2, 0), (3, 0), (4, 0), (5, 0), (6, 0), (7, 0), (8, 0), (9, 0), (10, 0), (11, 0), (12, 0)] mixed_Block (by kernel_rfl) (by intro j o hj; simp at hj) ?_
      refine sr rfl (yr_move rfl rfl) ?_
      refine sr rfl (yr_nilCheck rfl rfl) ?_
      refine sr rfl (yr_fieldAddr rfl Try.underlying30 rfl rfl sz23_Block (by decide) rfl) ?_
      refine sq rfl (yq_load rfl fb23_Block rfl zz0 rfl) ?_
      refine sr rfl (yr_move rfl rfl) ?_
      refine sq rfl (yq_idx (k := (fr + i)) rfl Try.underlying23 sz26_Block rfl rfl zz0 zz3 zz13 (by omega)) ?_
      refine sq rfl (yq_loadF rfl fb26_Block rfl zz0 (by omega)) ?_
      refine sr rfl (yr_move rfl rfl) ?_
      refine sr rfl (yr_move rfl rfl) ?_
      refine sq rfl (yq_idx (k := j) rfl Try.underlying23 sz26_Block rfl rfl zz0 zz3 zz13 (by omega)) ?_
      refine sq rfl (yq_loadF rfl fb26_Block rfl zz0 (by omega)) ?_
      refine sr rfl (yr_float rfl (.inr (.inr (.inl rfl))) rfl rfl) ?_
      refine sr rfl (yr_assign rfl rfl) ?_
      refine SW.done ?_
      refine VE.then_wp (V.seq (V.seq (V.region ?_)))
      refine vr (yr_assign (u := .int .i64 0) rfl rfl) ?_
      refine VL.nil (VE.then_wp (V.block ?_))
      refine V.loopc (G := Nat × (List Nat)) [(0, _), (1, _), (2, _), (8, _), (9, _), (10, _), (11, _), (12, _), (13, _), (14, _)] (fun ⟨k, A2⟩ => k ≤ (xss.getD 0 []).length ∧ A2.length = (xss.getD 0 []).length * (xss.getD 0 []).length ∧ ∀ j1 k1, j1 < (xss.getD 0 []).length → k1 < (xss.getD 0 []).length → A2.getD (j1 * (xss.getD 0 []).length + k1) 0 = blkA xss gs fr j1 k1 (if j1 < j ∨ (j1 = j ∧ k1 < k) then i + 1 else i)) (fun ⟨k, A2⟩ => [⟨some ⟨b28, 0, none⟩, fl B1, (xss.getD 0 []).length * 1, 26⟩, ⟨some ⟨b26, 0, none⟩, fl A2, ((xss.getD 0 []).length * (xss.getD 0 []).length) * 1, 26⟩]) (fun ⟨k, A2⟩ => [(15, .int .i64 (k : Int))]) (fun ⟨k, A2⟩ => (xss.getD 0 []).length - k) (0, A1) (.cons rfl (.cons rfl (.cons rfl (.cons rfl (.cons rfl (.cons rfl (.cons rfl (.cons rfl (.cons rfl (.cons rfl .nil)))))))))) (.cons rfl .nil) ?_ ?_ ?_
      · exact (fun w hw => hw)
      · exact (by exact ⟨by omega, hA1l, up_or hA3⟩)
      rintro ⟨k, A2⟩ ⟨hk, hA2l, hA4⟩
      show V _ _ _ [⟨some ⟨b28, 0, none⟩, fl B1, (xss.getD 0 []).length * 1, 26⟩, ⟨some ⟨b26, 0, none⟩, fl A2, ((xss.getD 0 []).length * (xss.getD 0 []).length) * 1, 26⟩] ([(15, .int .i64 (k : Int))] ++ [(0, _), (1, _), (2, _), (8, _), (9, _), (10, _), (11, _), (12, _), (13, _), (14, _)]) _ _
      have hixk := fun (h : j < (xss.getD 0 []).length) (hk : k < (xss.getD 0 []).length) => hix h hk
      refine V.seq (V.seq (V.region ?_))
      refine vr (yr_move rfl rfl) ?_
      refine vr (yr_move rfl rfl) ?_
      refine vr (yr_icmp rfl (.inr (.inr (.inl rfl))) rfl rfl) ?_
      refine VL.nil (VE.then_wp ?_)
      refine V.cond rfl (fun h3 => ?_) (fun h3 => ?_)
      · skip
        replace h3 := ic_lss h3
        refine V.skip (VE.then_wp (V.seq (V.block ?_)))
        refine V.draw [(0, 0), (1, 0), (2, 0), (3, 0), (4, 0), (5, 0), (6, 0), (7, 0), (8, 0), (9, 0), (10, 0), (11, 0), (12, 0), (13, 0), (14, 0), (15, 0), (16, 3)] mixed_Block (by kernel_rfl) (by intro j o hj; simp at hj) ?_
        refine sr rfl (yr_move rfl rfl) ?_
        refine sr rfl (yr_move rfl rfl) ?_
        refine sr rfl (yr_move rfl rfl) ?_
        refine sr rfl (yr_mulN j (xss.getD 0 []).length rfl rfl rfl (by omega) (by omega) (Nat.le_trans (mul_small (by omega) (by omega)) (by decide))) ?_
        refine sr rfl (yr_move rfl rfl) ?_
        refine sr rfl (yr_int rfl rfl rfl (.inl ⟨rfl, wrap_in (by omega)⟩)) ?_
        refine sq rfl (yq_idx (k := ((j * (xss.getD 0 []).length) + k)) rfl Try.underlying23 sz26_Block rfl rfl zz0 zz3 zz13 (by omega)) ?_
        refine sq rfl (yq_loadF rfl fb26_Block rfl zz0 (by omega)) ?_
        refine sr rfl (yr_move rfl rfl) ?_
        refine sr rfl (yr_move rfl rfl) ?_
        refine sr rfl (yr_move rfl rfl) ?_
        refine sq rfl (yq_idx (k := k) rfl Try.underlying23 sz26_Block rfl rfl zz0 zz3 zz13 (by omega)) ?_
        refine sq rfl (yq_loadF rfl fb26_Block rfl zz0 (by omega)) ?_
        refine sr rfl (yr_float rfl (.inr (.inr (.inl rfl))) rfl rfl) ?_
        refine sr rfl (yr_float rfl (.inl rfl) rfl rfl) ?_
        refine sq rfl (yq_idx (k := ((j * (xss.getD 0 []).length) + k)) rfl Try.underlying23 sz26_Block rfl rfl zz0 zz3 zz13 (by omega)) ?_
        refine SW.s rfl (.inl rfl) rfl (yc_store rfl sz26_Block rfl rfl zz8 (.inl ⟨rfl, rfl⟩) rfl (by rw [fl_length]; omega) (by decide) (fl_set _ _ _)) ?_
        rintro ⟨⟩
        refine SW.done ?_
        refine VE.block_normal (VE.then_wp (V.region ?_))
        refine vr (yr_move rfl rfl) ?_
        refine vr (yr_int rfl rfl rfl (.inl ⟨rfl, wrap_in (by omega)⟩)) ?_
        refine vr (yr_assign rfl rfl) ?_
        refine VL.nil ?_
        refine VE.round (k + 1, A2.set (j * (xss.getD 0 []).length + k) (fop .add .f32 (A2.getD (j * (xss.getD 0 []).length + k) 0) (fop .mul .f32 (fop .mul .f32 (gs.getD (fr + i) 0) ((xss.getD (fr + i) []).getD j 0)) ((xss.getD (fr + i) []).getD k 0)))) ?_ ?_ ?_ ?_ ?_
        · exact (.cons rfl .nil)
        · exact (.cons rfl (.cons rfl (.cons rfl (.cons rfl (.cons rfl (.cons rfl (.cons rfl (.cons rfl (.cons rfl (.cons rfl .nil))))))))))
        · exact (fun w hw => hw)
        · exact ⟨by omega, by simp [hA2l], blkA_step hA2l (by omega) (by omega) hA4⟩
        · (try dsimp only); omega
      replace h3 := ic_lss' h3
      refine V.exit ?_
      refine VE.then_exit (VE.then_exit (VE.block_here (VE.then_wp ?_)))
      refine V.draw [(0, 0), (1, 0), (2, 0), (3, 0), (4, 0), (5, 0), (6, 0), (7, 0), (8, 0), (9, 0), (10, 0), (11, 0), (12, 0), (13, 0), (14, 0), (15, 3)] mixed_Block (by kernel_rfl) (by intro j o hj; simp at hj) ?_
      refine sr rfl (yr_move rfl rfl) ?_
      refine sr rfl (yr_move rfl rfl) ?_
      refine sq rfl (yq_idx (k := j) rfl Try.underlying23 sz26_Block rfl rfl zz0 zz3 zz13 (by omega)) ?_
      refine sq rfl (yq_loadF rfl fb26_Block rfl zz0 (by omega)) ?_
      refine sr rfl (yr_move rfl rfl) ?_
      refine sr rfl (yr_move rfl rfl) ?_
      refine sr rfl (yr_nilCheck rfl rfl) ?_
      refine sr rfl (yr_fieldAddr rfl Try.underlying30 rfl rfl sz23_Block (by decide) rfl) ?_
      refine sq rfl (yq_load rfl fb23_Block rfl zz0 rfl) ?_
      refine sr rfl (yr_move rfl rfl) ?_
      refine sq rfl (yq_idx (k := (fr + i)) rfl Try.underlying23 sz26_Block rfl rfl zz0 zz3 zz13 (by omega)) ?_
      refine sq rfl (yq_loadF rfl fb26_Block rfl zz0 (by omega)) ?_
      refine sr rfl (yr_float rfl (.inr (.inr (.inl rfl))) rfl rfl) ?_
      refine sr rfl (yr_float rfl (.inl rfl) rfl rfl) ?_
      refine sq rfl (yq_idx (k := j) rfl Try.underlying23 sz26_Block rfl rfl zz0 zz3 zz13 (by omega)) ?_
      refine SW.s rfl (.inl rfl) rfl (yc_store rfl sz26_Block rfl rfl zz8 (.inl ⟨rfl, rfl⟩) rfl (by rw [fl_length]; omega) (by decide) (fl_set _ _ _)) ?_
      rintro ⟨⟩
      refine SW.done ?_
      refine VE.block_normal (VE.then_wp (V.region ?_))
      refine vr (yr_move rfl rfl) ?_
      refine vr (yr_int rfl rfl rfl (.inl ⟨rfl, wrap_in (by omega)⟩)) ?_
      refine vr (yr_assign rfl rfl) ?_
      refine VL.nil ?_
      refine VE.round (j + 1, A2, B1.set j (fop .add .f32 (B1.getD j 0) (fop .mul .f32 (fop .mul .f32 (gs.getD (fr + i) 0) ((xss.getD (fr + i) []).getD j 0)) (ws.getD (fr + i) 0)))) ?_ ?_ ?_ ?_ ?_
      · exact (.cons rfl .nil)
      · exact (.cons rfl (.cons rfl (.cons rfl (.cons rfl (.cons rfl (.cons rfl (.cons rfl (.cons rfl .nil))))))))
      · exact (fun w hw => hw)
      · obtain rfl : k = (xss.getD 0 []).length := by omega
        exact ⟨by omega, hA2l, by simp [hB1l], or_up hA4, blkB_step hB1l (by omega) hB3⟩
      · (try dsimp only); omega
    replace h2 := ic_lss' h2
    refine V.exit ?_
    refine VE.then_exit (VE.then_exit (VE.block_here (VE.block_normal (VE.then_wp (V.region ?_)))))
    refine vr (yr_move rfl rfl) ?_
    refine vr (yr_int rfl rfl rfl (.inl ⟨rfl, wrap_in (by omega)⟩)) ?_
    refine vr (yr_assign rfl rfl) ?_
    refine VL.nil ?_
    refine VE.round (i + 1, A1, B1) ?_ ?_ ?_ ?_ ?_
    · exact (.cons (congrArg (fun i => some (Value.int .i64 i)) (by omega)) .nil)
    · exact (.cons rfl (.cons rfl (.cons rfl (.cons rfl (.cons rfl (.cons rfl .nil))))))
    · exact (fun w hw => hw)
    · obtain rfl : j = (xss.getD 0 []).length := by omega
      exact ⟨by omega, hA1l, hB1l, fun j1 k1 h1 h2 => by rw [hA3 j1 k1 h1 h2, if_pos h1], fun j1 h1 => by rw [hB3 j1 h1, if_pos h1]⟩
    · (try dsimp only); omega
  replace h1 := ic_lss' h1
  refine V.exit ?_
  refine VE.then_exit (VE.then_exit (VE.block_here (VE.then_wp (V.seq (V.region ?_)))))
  refine vr (yr_move rfl rfl) ?_
  refine vr (yr_move rfl rfl) ?_
  refine vr (yr_assign rfl rfl) ?_
  refine vr (yr_assign rfl rfl) ?_
  refine VL.nil (VE.then_wp (V.ret ?_))
  refine ret2 rfl rfl rfl (by nofun) (by nofun) (fun w1 hw => ?_)
  obtain rfl : i = cnt := by omega
  have hAe := ext_square hAl hA2
  have hBe : B = blockB xss ws gs fr i (xss.getD 0 []).length := ext_getD (by rw [hBl, blockB_length]) fun t ht => by rw [hB2 t (by omega), blockB, getD_range _ _ (by omega)]
  rw [hAe, hBe] at hw
  exact ⟨(b26, b28), rfl, hw.outs (((List.nil_sublist _).cons_cons _).cons_cons _)⟩
theorem c_block [PhC] {w : World} {a a1 a2 : Option Addr} {c c1 c2 : Nat} {f : Nat → Option Addr × Nat} {xss : List (List Nat)} {ws gs : List Nat} {blk fr cnt : Nat} {bi : Int} (hA : Cl w a (hd f xss)) (hR : Rws w f xss) (hW : Cl w a1 (fl ws)) (hG : Cl w a2 (fl gs)) (hsz : bulk xss + ws.length + gs.length ≤ 1050000) (hval : ValidP xss ws gs) (hbi : bi = (blk : Int)) (hfr : fr = blk * 8) (hcnt : cnt = min 8 (xss.length - blk * 8)) (hle : blk * 8 ≤ xss.length) : New Try.prog 47 [.agg #[.slice a xss.length c, .slice a1 ws.length c1, .slice a2 gs.length c2], .int .i64 bi] w (fun p : Nat × Nat => .tuple #[.slice (some ⟨p.1, 0, none⟩) ((xss.getD 0 []).length * (xss.getD 0 []).length) ((xss.getD 0 []).length * (xss.getD 0 []).length), .slice (some ⟨p.2, 0, none⟩) (xss.getD 0 []).length (xss.getD 0 []).length]) (fun p => [⟨some ⟨p.2, 0, none⟩, fl (blockB xss ws gs fr cnt (xss.getD 0 []).length), (xss.getD 0 []).length * 1, 26⟩, ⟨some ⟨p.1, 0, none⟩, fl (blockA xss gs fr cnt (xss.getD 0 []).length), ((xss.getD 0 []).length * (xss.getD 0 []).length) * 1, 26⟩]) := by
  subst hbi
  refine New.enter Try.func47 rfl Try.ntmps47 (Nat.le_of_ble_eq_true rfl) ?_
  have hr : ∀ i, i < xss.length → (xss.getD i []).length ≤ 1050000 := fun i hi => by have := bulk_row hi; omega
  have hxl : xss.length ≤ bulk xss := by unfold bulk; omega
  obtain ⟨v1, v2, v3, v4, v5, v6, v7, v8⟩ := hval
  have hN : ∀ i, i < xss.length → (xss.getD i []).length = (xss.getD 0 []).length := fun i hi => (v6 i hi).1
  have hnn : (xss.getD 0 []).length * (xss.getD 0 []).length ≤ 64 := Nat.mul_le_mul v8 v8
  have hix : ∀ {j k : Nat}, j < (xss.getD 0 []).length → k < (xss.getD 0 []).length → j * (xss.getD 0 []).length + k < (xss.getD 0 []).length * (xss.getD 0 []).length := idx_lt
  refine V.seq (V.region ?_)
  refine VL.new1 (.inl rfl) rfl (by decide) (yn_box rfl rfl (.inr ⟨rfl, rfl⟩)) ?_
  intro b2
  refine vr (yr_assign (u := .slice none 0 0) rfl rfl) ?_
  refine vr (yr_assign (u := .slice none 0 0) rfl rfl) ?_
  refine VL.nil (VE.then_wp (V.seq (V.region ?_)))
  refine vr (yr_fieldAddr rfl Try.underlying30 rfl rfl sz22_Block (by decide) rfl) ?_
  refine vq (yq_load rfl fb22_Block rfl zz0 rfl) ?_
  refine vq (yq_idx (k := 0) rfl Try.underlying22 sz23_Block rfl rfl zz0 zz3 zz13 (by omega)) ?_
  refine vq (yq_loadH rfl fb23_Block rfl zz0 (by omega)) ?_
  refine vr (yr_len rfl Try.underlying23 rfl) ?_
  refine vr (yr_assign rfl rfl) ?_
  refine VL.nil (VE.then_wp (V.seq ?_))
  refine Dr.V.drawR [(0, 5), (1, 5), (2, 5), (4, 5), (3, 2), (6, 5), (5, 2), (7, 5)] [(3, ((fun b => .slice (some ⟨b, 0, none⟩) ((xss.getD 0 []).length * (xss.getD 0 []).length) ((xss.getD 0 []).length * (xss.getD 0 []).length)), (fun b => ⟨some ⟨b, 0, none⟩, cycle [Value.float .f32 0] ((xss.getD 0 []).length * (xss.getD 0 []).length), ((xss.getD 0 []).length * (xss.getD 0 []).length) * 1, 26⟩))), (5, ((fun b => .slice (some ⟨b, 0, none⟩) (xss.getD 0 []).length (xss.getD 0 []).length), (fun b => ⟨some ⟨b, 0, none⟩, cycle [Value.float .f32 0] (xss.getD 0 []).length, (xss.getD 0 []).length * 1, 26⟩)))] [] _ mixed_Block (by kernel_rfl) (fun w hw => hw) ?_
  refine Dr.SW.r rfl (.inl rfl) rfl (by decide) (yr_move rfl rfl) ?_
  refine Dr.SW.r rfl (.inl rfl) rfl (by decide) (yr_move rfl rfl) ?_
  refine Dr.SW.r rfl (.inl rfl) rfl (by decide) (yr_mulN (xss.getD 0 []).length (xss.getD 0 []).length rfl rfl rfl (by omega) (by omega) (Nat.le_trans (mul_small (by omega) (by omega)) (by decide))) ?_
  refine Dr.SW.r rfl (.inl rfl) rfl (by decide) (yr_move rfl rfl) ?_
  refine Dr.SW.a rfl rfl rfl (by decide) rfl (fun w0 => (yn_makeSlicez 1 rfl rfl Try.underlying23 elt26_Block rfl rfl rfl (by omega) (by omega))) ?_
  intro b24
  refine Dr.SW.r rfl (.inl rfl) rfl (by decide) (yr_assign rfl rfl) ?_
  refine Dr.SW.a rfl rfl rfl (by decide) rfl (fun w0 => (yn_makeSlicez 1 rfl rfl Try.underlying23 elt26_Block rfl rfl rfl (by omega) (by omega))) ?_
  intro b26
  refine Dr.SW.r rfl (.inl rfl) rfl (by decide) (yr_assign rfl rfl) ?_
  refine Dr.SW.done ?_
  refine Dr.eqO (by simp only [List.append_nil, List.append_assoc, List.cons_append, List.nil_append] <;> rfl) ?_
  refine VE.then_wp (V.seq (V.seq (V.region ?_)))
  refine vr (yr_move rfl rfl) ?_
  refine vr (yr_mulN blk 8 rfl rfl rfl (by omega) (by omega) (Nat.le_trans (mul_small (by omega) (by omega)) (by decide))) ?_
  refine vr (yr_assign rfl rfl) ?_
  refine VL.nil (VE.then_wp (V.block ?_))
  refine V.loopc (G := Nat × (List Nat) × (List Nat)) [(1, _), (2, _), (6, _), (7, _), (8, _)] (fun ⟨i, A, B⟩ => i ≤ cnt ∧ A.length = (xss.getD 0 []).length * (xss.getD 0 []).length ∧ B.length = (xss.getD 0 []).length ∧ (∀ j k, j < (xss.getD 0 []).length → k < (xss.getD 0 []).length → A.getD (j * (xss.getD 0 []).length + k) 0 = blkA xss gs fr j k i) ∧ ∀ j, j < (xss.getD 0 []).length → B.getD j 0 = blkB xss ws gs fr j i) (fun ⟨i, A, B⟩ => [⟨some ⟨b26, 0, none⟩, fl B, (xss.getD 0 []).length * 1, 26⟩, ⟨some ⟨b24, 0, none⟩, fl A, ((xss.getD 0 []).length * (xss.getD 0 []).length) * 1, 26⟩, ⟨some ⟨b2, 0, none⟩, [.slice a xss.length c, .slice a1 ws.length c1, .slice a2 gs.length c2], 3, 30⟩]) (fun ⟨i, A, B⟩ => [(9, .int .i64 ((fr + i : Nat) : Int))]) (fun ⟨i, A, B⟩ => cnt - i) (0, List.replicate ((xss.getD 0 []).length * (xss.getD 0 []).length) 0, List.replicate (xss.getD 0 []).length 0) (.cons rfl (.cons rfl (.cons rfl (.cons rfl (.cons rfl .nil))))) (.cons (congrArg (fun i => some (Value.int .i64 i)) (by omega)) .nil) ?_ ?_ ?_
  · exact (fun w hw => by rw [fl_zeros, fl_zeros] at hw; exact hw)
  · exact (by refine ⟨by omega, by simp, by simp, fun j k _ _ => ?_, fun j _ => ?_⟩ <;> rw [replicate_getD] <;> rfl)
  rintro ⟨i, A, B⟩ ⟨hi, hAl, hBl, hA2, hB2⟩
  show V _ _ _ [⟨some ⟨b26, 0, none⟩, fl B, (xss.getD 0 []).length * 1, 26⟩, ⟨some ⟨b24, 0, none⟩, fl A, ((xss.getD 0 []).length * (xss.getD 0 []).length) * 1, 26⟩, ⟨some ⟨b2, 0, none⟩, [.slice a xss.length c, .slice a1 ws.length c1, .slice a2 gs.length c2], 3, 30⟩] ([(9, .int .i64 ((fr + i : Nat) : Int))] ++ [(1, _), (2, _), (6, _), (7, _), (8, _)]) _ _
  have hrl := fun h => hN (fr + i) h
  refine V.seq (V.seq (V.region ?_))
  refine vr (yr_move rfl rfl) ?_
  refine vr (yr_move rfl rfl) ?_
  refine vr (yr_int rfl rfl rfl (.inl ⟨rfl, wrap_in (by omega)⟩)) ?_
  refine vr (yr_mulN (blk + 1) 8 rfl rfl rfl (by omega) (by omega) (Nat.le_trans (mul_small (by omega) (by omega)) (by decide))) ?_
  refine vr (yr_fieldAddr rfl Try.underlying30 rfl rfl sz22_Block (by decide) rfl) ?_
  refine vq (yq_load rfl fb22_Block rfl zz0 rfl) ?_
  refine vr (yr_len rfl Try.underlying22 rfl) ?_
  refine vr (yr_minI rfl rfl rfl) ?_
  refine vr (yr_icmp rfl (.inr (.inr (.inl rfl))) rfl rfl) ?_
  refine VL.nil (VE.then_wp ?_)
  refine V.cond rfl (fun h1 => ?_) (fun h1 => ?_)
  · skip
    replace h1 := ic_lss h1
    refine V.skip (VE.then_wp (V.seq (V.block (V.seq (V.region ?_)))))
    refine vr (yr_fieldAddr rfl Try.underlying30 rfl rfl sz22_Block (by decide) rfl) ?_
    refine vq (yq_load rfl fb22_Block rfl zz0 rfl) ?_
    refine vr (yr_move rfl rfl) ?_
    refine vq (yq_idx (k := (fr + i)) rfl Try.underlying22 sz23_Block rfl rfl zz0 zz3 zz13 (by omega)) ?_
    refine vq (yq_loadH rfl fb23_Block rfl zz0 (by omega)) ?_
    refine vr (yr_assign rfl rfl) ?_
    refine VL.nil (VE.then_wp (V.seq (V.region ?_)))
    refine vr (yr_move rfl rfl) ?_
    refine vr (yr_len rfl Try.underlying23 rfl) ?_
    refine vr (yr_move (u := .int .i64 0) rfl rfl) ?_
    refine VL.nil (VE.then_wp (V.block ?_))
    refine V.loopc (G := Nat × (List Nat) × (List Nat)) [(1, _), (2, _), (6, _), (7, _), (8, _), (9, _), (10, _), (45, _), (46, _)] (fun ⟨j, A1, B1⟩ => j ≤ (xss.getD 0 []).length ∧ A1.length = (xss.getD 0 []).length * (xss.getD 0 []).length ∧ B1.length = (xss.getD 0 []).length ∧ (∀ j1 k1, j1 < (xss.getD 0 []).length → k1 < (xss.getD 0 []).length → A1.getD (j1 * (xss.getD 0 []).length + k1) 0 = blkA xss gs fr j1 k1 (if j1 < j then i + 1 else i)) ∧ ∀ j1, j1 < (xss.getD 0 []).length → B1.getD j1 0 = blkB xss ws gs fr j1 (if j1 < j then i + 1 else i)) (fun ⟨j, A1, B1⟩ => [⟨some ⟨b26, 0, none⟩, fl B1, (xss.getD 0 []).length * 1, 26⟩, ⟨some ⟨b24, 0, none⟩, fl A1, ((xss.getD 0 []).length * (xss.getD 0 []).length) * 1, 26⟩, ⟨some ⟨b2, 0, none⟩, [.slice a xss.length c, .slice a1 ws.length c1, .slice a2 gs.length c2], 3, 30⟩]) (fun ⟨j, A1, B1⟩ => [(47, .int .i64 (j : Int))]) (fun ⟨j, A1, B1⟩ => (xss.getD 0 []).length - j) (0, A, B) (.cons rfl (.cons rfl (.cons rfl (.cons rfl (.cons rfl (.cons rfl (.cons rfl (.cons rfl (.cons rfl .nil))))))))) (.cons rfl .nil) ?_ ?_ ?_
    · exact (fun w hw => hw)
    · exact (by exact ⟨by omega, hAl, hBl, fun j1 k1 h1 h2 => by rw [hA2 j1 k1 h1 h2, if_neg (by omega)], fun j1 h1 => by rw [hB2 j1 h1, if_neg (by omega)]⟩)
    rintro ⟨j, A1, B1⟩ ⟨hj, hA1l, hB1l, hA3, hB3⟩
    show V _ _ _ [⟨some ⟨b26, 0, none⟩, fl B1, (xss.getD 0 []).length * 1, 26⟩, ⟨some ⟨b24, 0, none⟩, fl A1, ((xss.getD 0 []).length * (xss.getD 0 []).length) * 1, 26⟩, ⟨some ⟨b2, 0, none⟩, [.slice a xss.length c, .slice a1 ws.length c1, .slice a2 gs.length c2], 3, 30⟩] ([(47, .int .i64 (j : Int))] ++ [(1, _), (2, _), (6, _), (7, _), (8, _), (9, _), (10, _), (45, _), (46, _)]) _ _
    have hixj := fun (h : j < (xss.getD 0 []).length) (k : Nat) (hk : k < (xss.getD 0 []).length) => hix h hk
    refine V.seq (V.region ?_)
    refine vr (yr_icmp rfl (.inr (.inr (.inl rfl))) rfl rfl) ?_
    refine VL.nil (VE.then_wp (V.seq ?_))
    refine V.cond rfl (fun h2 => ?_) (fun h2 => ?_)
    · skip
      replace h2 := ic_lss h2
      refine V.skip (VE.then_wp (V.seq (V.block (V.seq (V.region ?_)))))
      refine vr (yr_move rfl rfl) ?_
      refine vq (yq_idx (k := j) rfl Try.underlying23 sz26_Block rfl rfl zz0 zz3 zz13 (by omega)) ?_
      refine vq (yq_loadF rfl fb26_Block rfl zz0 (by omega)) ?_
      refine vr (yr_assign rfl rfl) ?_
      refine vr (yr_assign rfl rfl) ?_
      refine VL.nil (VE.then_wp (V.seq (V.region ?_)))
      refine vr (yr_fieldAddr rfl Try.underlying30 rfl rfl sz23_Block (by decide) rfl) ?_
      refine vq (yq_load rfl fb23_Block rfl zz0 rfl) ?_
      refine vr (yr_move rfl rfl) ?_
      refine vq (yq_idx (k := (fr + i)) rfl Try.underlying23 sz26_Block rfl rfl zz0 zz3 zz13 (by omega)) ?_
      refine vq (yq_loadF rfl fb26_Block rfl zz0 (by omega)) ?_
      refine vr (yr_move rfl rfl) ?_
      refine vr (yr_float rfl (.inr (.inr (.inl rfl))) rfl rfl) ?_
      refine vr (yr_assign rfl rfl) ?_
      refine VL.nil (VE.then_wp (V.seq (V.seq (V.region ?_))))
      refine vr (yr_move rfl rfl) ?_
      refine vr (yr_len rfl Try.underlying23 rfl) ?_
      refine vr (yr_move (u := .int .i64 0) rfl rfl) ?_
      refine VL.nil (VE.then_wp (V.block ?_))
      refine V.loopc (G := Nat × (List Nat)) [(1, _), (2, _), (6, _), (7, _), (8, _), (9, _), (10, _), (11, _), (13, _), (45, _), (46, _), (47, _), (59, _), (60, _)] (fun ⟨k, A2⟩ => k ≤ (xss.getD 0 []).length ∧ A2.length = (xss.getD 0 []).length * (xss.getD 0 []).length ∧ ∀ j1 k1, j1 < (xss.getD 0 []).length → k1 < (xss.getD 0 []).length → A2.getD (j1 * (xss.getD 0 []).length + k1) 0 = blkA xss gs fr j1 k1 (if j1 < j ∨ (j1 = j ∧ k1 < k) then i + 1 else i)) (fun ⟨k, A2⟩ => [⟨some ⟨b26, 0, none⟩, fl B1, (xss.getD 0 []).length * 1, 26⟩, ⟨some ⟨b24, 0, none⟩, fl A2, ((xss.getD 0 []).length * (xss.getD 0 []).length) * 1, 26⟩, ⟨some ⟨b2, 0, none⟩, [.slice a xss.length c, .slice a1 ws.length c1, .slice a2 gs.length c2], 3, 30⟩]) (fun ⟨k, A2⟩ => [(61, .int .i64 (k : Int))]) (fun ⟨k, A2⟩ => (xss.getD 0 []).length - k) (0, A1) (.cons rfl (.cons rfl (.cons rfl (.cons rfl (.cons rfl (.cons rfl (.cons rfl (.cons rfl (.cons rfl (.cons rfl (.cons rfl (.cons rfl (.cons rfl (.cons rfl .nil)))))))))))))) (.cons rfl .nil) ?_ ?_ ?_
      · exact (fun w hw => hw)
      · exact (by exact ⟨by omega, hA1l, up_or hA3⟩)
      rintro ⟨k, A2⟩ ⟨hk, hA2l, hA4⟩
      show V _ _ _ [⟨some ⟨b26, 0, none⟩, fl B1, (xss.getD 0 []).length * 1, 26⟩, ⟨some ⟨b24, 0, none⟩, fl A2, ((xss.getD 0 []).length * (xss.getD 0 []).length) * 1, 26⟩, ⟨some ⟨b2, 0, none⟩, [.slice a xss.length c, .slice a1 ws.length c1, .slice a2 gs.length c2], 3, 30⟩] ([(61, .int .i64 (k : Int))] ++ [(1, _), (2, _), (6, _), (7, _), (8, _), (9, _), (10, _), (11, _), (13, _), (45, _), (46, _), (47, _), (59, _), (60, _)]) _ _
      have hixk := fun (h : j < (xss.getD 0 []).length) (hk : k < (xss.getD 0 []).length) => hix h hk
      refine V.seq (V.region ?_)
      refine vr (yr_icmp rfl (.inr (.inr (.inl rfl))) rfl rfl) ?_
      refine VL.nil (VE.then_wp (V.seq ?_))
      refine V.cond rfl (fun h3 => ?_) (fun h3 => ?_)
      · skip
        replace h3 := ic_lss h3
        refine V.skip (VE.then_wp (V.seq (V.block (V.seq (V.region ?_)))))
        refine vr (yr_move rfl rfl) ?_
        refine vq (yq_idx (k := k) rfl Try.underlying23 sz26_Block rfl rfl zz0 zz3 zz13 (by omega)) ?_
        refine vq (yq_loadF rfl fb26_Block rfl zz0 (by omega)) ?_
        refine vr (yr_assign rfl rfl) ?_
        refine vr (yr_assign rfl rfl) ?_
        refine VL.nil (VE.then_wp (V.region ?_))
        refine vr (yr_move rfl rfl) ?_
        refine vr (yr_move rfl rfl) ?_
        refine vr (yr_move rfl rfl) ?_
        refine vr (yr_mulN j (xss.getD 0 []).length rfl rfl rfl (by omega) (by omega) (Nat.le_trans (mul_small (by omega) (by omega)) (by decide))) ?_
        refine vr (yr_move rfl rfl) ?_
        refine vr (yr_int rfl rfl rfl (.inl ⟨rfl, wrap_in (by omega)⟩)) ?_
        refine vr (yr_move rfl rfl) ?_
        refine vr (yr_move rfl rfl) ?_
        refine vr (yr_move rfl rfl) ?_
        refine vr (yr_mulN j (xss.getD 0 []).length rfl rfl rfl (by omega) (by omega) (Nat.le_trans (mul_small (by omega) (by omega)) (by decide))) ?_
        refine vr (yr_move rfl rfl) ?_
        refine vr (yr_int rfl rfl rfl (.inl ⟨rfl, wrap_in (by omega)⟩)) ?_
        refine vq (yq_idx (k := ((j * (xss.getD 0 []).length) + k)) rfl Try.underlying23 sz26_Block rfl rfl zz0 zz3 zz13 (by omega)) ?_
        refine vq (yq_loadF rfl fb26_Block rfl zz0 (by omega)) ?_
        refine vr (yr_move rfl rfl) ?_
        refine vr (yr_move rfl rfl) ?_
        refine vr (yr_float rfl (.inr (.inr (.inl rfl))) rfl rfl) ?_
        refine vr (yr_float rfl (.inl rfl) rfl rfl) ?_
        refine vq (yq_idx (k := ((j * (xss.getD 0 []).length) + k)) rfl Try.underlying23 sz26_Block rfl rfl zz0 zz3 zz13 (by omega)) ?_
        refine VL.s (.inl rfl) rfl (yc_store rfl sz26_Block rfl rfl zz8 (.inl ⟨rfl, rfl⟩) rfl (by rw [fl_length]; omega) (by decide) (fl_set _ _ _)) ?_
        rintro ⟨⟩
        refine VL.nil (VE.block_normal (VE.then_wp (V.region ?_)))
        refine vr (yr_int rfl rfl rfl (.inl ⟨rfl, wrap_in (by omega)⟩)) ?_
        refine vr (yr_move rfl rfl) ?_
        refine VL.nil ?_
        refine VE.round (k + 1, A2.set (j * (xss.getD 0 []).length + k) (fop .add .f32 (A2.getD (j * (xss.getD 0 []).length + k) 0) (fop .mul .f32 (fop .mul .f32 (gs.getD (fr + i) 0) ((xss.getD (fr + i) []).getD j 0)) ((xss.getD (fr + i) []).getD k 0)))) ?_ ?_ ?_ ?_ ?_
        · exact (.cons rfl .nil)
        · exact (.cons rfl (.cons rfl (.cons rfl (.cons rfl (.cons rfl (.cons rfl (.cons rfl (.cons rfl (.cons rfl (.cons rfl (.cons rfl (.cons rfl (.cons rfl (.cons rfl .nil))))))))))))))
        · exact (fun w hw => hw)
        · exact ⟨by omega, by simp [hA2l], blkA_step hA2l (by omega) (by omega) hA4⟩
        · (try dsimp only); omega
      replace h3 := ic_lss' h3
      refine V.exit ?_
      refine VE.then_exit (VE.then_exit (VE.block_here (VE.then_wp ?_)))
      refine V.draw [(0, 0), (1, 0), (2, 0), (3, 0), (4, 0), (5, 0), (6, 0), (7, 0), (8, 0), (9, 0), (10, 0), (11, 0), (12, 0), (13, 0), (14, 0), (15, 3)] mixed_Block (by kernel_rfl) (by intro j o hj; simp at hj) ?_
      refine sr rfl (yr_move rfl rfl) ?_
      refine sr rfl (yr_move rfl rfl) ?_
      refine sr rfl (yr_move rfl rfl) ?_
      refine sr rfl (yr_move rfl rfl) ?_
      refine sq rfl (yq_idx (k := j) rfl Try.underlying23 sz26_Block rfl rfl zz0 zz3 zz13 (by omega)) ?_
      refine sq rfl (yq_loadF rfl fb26_Block rfl zz0 (by omega)) ?_
      refine sr rfl (yr_move rfl rfl) ?_
      refine sr rfl (yr_fieldAddr rfl Try.underlying30 rfl rfl sz23_Block (by decide) rfl) ?_
      refine sq rfl (yq_load rfl fb23_Block rfl zz0 rfl) ?_
      refine sr rfl (yr_move rfl rfl) ?_
      refine sq rfl (yq_idx (k := (fr + i)) rfl Try.underlying23 sz26_Block rfl rfl zz0 zz3 zz13 (by omega)) ?_
      refine sq rfl (yq_loadF rfl fb26_Block rfl zz0 (by omega)) ?_
      refine sr rfl (yr_float rfl (.inr (.inr (.inl rfl))) rfl rfl) ?_
      refine sr rfl (yr_float rfl (.inl rfl) rfl rfl) ?_
      refine sq rfl (yq_idx (k := j) rfl Try.underlying23 sz26_Block rfl rfl zz0 zz3 zz13 (by omega)) ?_
      refine SW.s rfl (.inl rfl) rfl (yc_store rfl sz26_Block rfl rfl zz8 (.inl ⟨rfl, rfl⟩) rfl (by rw [fl_length]; omega) (by decide) (fl_set _ _ _)) ?_
      rintro ⟨⟩
      refine SW.done ?_
      refine VE.block_normal (VE.then_wp (V.region ?_))
      refine vr (yr_int rfl rfl rfl (.inl ⟨rfl, wrap_in (by omega)⟩)) ?_
      refine vr (yr_move rfl rfl) ?_
      refine VL.nil ?_
      refine VE.round (j + 1, A2, B1.set j (fop .add .f32 (B1.getD j 0) (fop .mul .f32 (fop .mul .f32 (gs.getD (fr + i) 0) ((xss.getD (fr + i) []).getD j 0)) (ws.getD (fr + i) 0)))) ?_ ?_ ?_ ?_ ?_
      · exact (.cons rfl .nil)
      · exact (.cons rfl (.cons rfl (.cons rfl (.cons rfl (.cons rfl (.cons rfl (.cons rfl (.cons rfl (.cons rfl .nil)))))))))
      · exact (fun w hw => hw)
      · obtain rfl : k = (xss.getD 0 []).length := by omega
        exact ⟨by omega, hA2l, by simp [hB1l], or_up hA4, blkB_step hB1l (by omega) hB3⟩
      · (try dsimp only); omega
    replace h2 := ic_lss' h2
    refine V.exit ?_
    refine VE.then_exit (VE.then_exit (VE.block_here (VE.block_normal (VE.then_wp (V.region ?_)))))
    refine vr (yr_move rfl rfl) ?_
    refine vr (yr_int rfl rfl rfl (.inl ⟨rfl, wrap_in (by omega)⟩)) ?_
    refine vr (yr_assign rfl rfl) ?_
    refine VL.nil ?_
    refine VE.round (i + 1, A1, B1) ?_ ?_ ?_ ?_ ?_
    · exact (.cons (congrArg (fun i => some (Value.int .i64 i)) (by omega)) .nil)
    · exact (.cons rfl (.cons rfl (.cons rfl (.cons rfl (.cons rfl .nil)))))
    · exact (fun w hw => hw)
    · obtain rfl : j = (xss.getD 0 []).length := by omega
      exact ⟨by omega, hA1l, hB1l, fun j1 k1 h1 h2 => by rw [hA3 j1 k1 h1 h2, if_pos h1], fun j1 h1 => by rw [hB3 j1 h1, if_pos h1]⟩
    · (try dsimp only); omega
  replace h1 := ic_lss' h1
  refine V.exit ?_
  refine VE.then_exit (VE.then_exit (VE.block_here (VE.then_wp (V.seq (V.region ?_)))))
  refine vr (yr_move rfl rfl) ?_
  refine vr (yr_move rfl rfl) ?_
  refine vr (yr_assign rfl rfl) ?_
  refine vr (yr_assign rfl rfl) ?_
  refine VL.nil (VE.then_wp (V.ret ?_))
  refine ret2 rfl rfl rfl (by nofun) (by nofun) (fun w1 hw => ?_)
  obtain rfl : i = cnt := by omega
  have hAe := ext_square hAl hA2
  have hBe : B = blockB xss ws gs fr i (xss.getD 0 []).length := ext_getD (by rw [hBl, blockB_length]) fun t ht => by rw [hB2 t (by omega), blockB, getD_range _ _ (by omega)]
  rw [hAe, hBe] at hw
  exact ⟨(b24, b26), rfl, hw.outs (((List.nil_sublist _).cons_cons _).cons_cons _)⟩
theorem c_l07At [PhC] {w : World} {q : Option Addr} {a a1 a2 : Option Addr} {c c1 c2 : Nat} {f : Nat → Option Addr × Nat} {xss : List (List Nat)} {ws gs : List Nat} {bi : Int} (hQ : Cl w q [.slice a xss.length c, .slice a1 ws.length c1, .slice a2 gs.length c2]) (hA : Cl w a (hd f xss)) (hR : Rws w f xss) (hW : Cl w a1 (fl ws)) (hG : Cl w a2 (fl gs)) (hsz : bulk xss + ws.length + gs.length ≤ 1050000) (hval : ValidP xss ws gs) (hb0 : 0 ≤ bi) (hb1 : bi * 8 ≤ xss.length) : New Try.prog 71 [.pointer (some (adr q 0)), .int .i64 bi] w (fun p : Nat × Nat => .tuple #[.slice (some ⟨p.1, 0, none⟩) ((xss.getD 0 []).length * (xss.getD 0 []).length) ((xss.getD 0 []).length * (xss.getD 0 []).length), .slice (some ⟨p.2, 0, none⟩) (xss.getD 0 []).length (xss.getD 0 []).length]) (fun p => [⟨some ⟨p.2, 0, none⟩, fl (blockB xss ws gs (bi.toNat * 8) (min 8 (xss.length - bi.toNat * 8)) (xss.getD 0 []).length), (xss.getD 0 []).length * 1, 26⟩, ⟨some ⟨p.1, 0, none⟩, fl (blockA xss gs (bi.toNat * 8) (min 8 (xss.length - bi.toNat * 8)) (xss.getD 0 []).length), ((xss.getD 0 []).length * (xss.getD 0 []).length) * 1, 26⟩]) := by
  refine New.enter Try.func71 rfl Try.ntmps71 (Nat.le_of_ble_eq_true rfl) ?_
  have hr : ∀ i, i < xss.length → (xss.getD i []).length ≤ 1050000 := fun i hi => by have := bulk_row hi; omega
  have hxl : xss.length ≤ bulk xss := by unfold bulk; omega
  refine V.seq (V.region ?_)
  refine vr (yr_assign (u := .slice none 0 0) rfl rfl) ?_
  refine vr (yr_assign (u := .slice none 0 0) rfl rfl) ?_
  refine VL.nil (VE.then_wp (V.seq (V.region ?_)))
  refine vr (yr_move rfl rfl) ?_
  refine vr (yr_int rfl rfl rfl (.inr (.inr ⟨rfl, wrap_in (by omega)⟩))) ?_
  refine vr (yr_assign rfl rfl) ?_
  refine VL.nil (VE.then_wp (V.seq (V.region ?_)))
  refine vr (yr_move rfl rfl) ?_
  refine vr (yr_move rfl rfl) ?_
  refine vr (yr_move rfl rfl) ?_
  refine vr (yr_nilCheck rfl rfl) ?_
  refine vr (yr_fieldAddr rfl Try.underlying30 rfl rfl sz22_Block (by decide) rfl) ?_
  refine vq (yq_load rfl fb22_Block rfl zz0 rfl) ?_
  refine vr (yr_len rfl Try.underlying22 rfl) ?_
  refine vr (yr_move rfl rfl) ?_
  refine vr (yr_int rfl rfl rfl (.inr (.inl ⟨rfl, wrap_in (by omega)⟩))) ?_
  refine vq (yq_callf rfl known98_Block (.cons rfl (.cons rfl .nil)) (fun w hw => c_l00Min)) ?_
  refine VL.new (.inl rfl) rfl (by decide) (yn_callf rfl known97_Block (.cons rfl (.cons rfl (.cons rfl .nil))) (fun w hw => (c_l07Block (fr := bi.toNat * 8) (cnt := min 8 (xss.length - bi.toNat * 8)) zz1 zz1 zz7 zz1 zz1 (by omega) (by assumption) (by omega) (by omega) (by omega)))) ?_
  rintro ⟨b19, e19⟩
  refine vr (yr_extract rfl rfl rfl (by nofun)) ?_
  refine vr (yr_extract rfl rfl rfl (by nofun)) ?_
  refine vr (yr_assign rfl rfl) ?_
  refine vr (yr_assign rfl rfl) ?_
  refine VL.nil (VE.then_wp (V.ret ?_))
  refine ret2 rfl rfl rfl (by nofun) (by nofun) (fun w1 hw => ?_)
  exact ⟨(b19, e19), rfl, hw.outs (List.Sublist.refl _)⟩
theorem c_implBlock [PhC] {w : World} {a a1 a2 : Option Addr} {c c1 c2 : Nat} {f : Nat → Option Addr × Nat} {xss : List (List Nat)} {ws gs : List Nat} {bi : Int} (hA : Cl w a (hd f xss)) (hR : Rws w f xss) (hW : Cl w a1 (fl ws)) (hG : Cl w a2 (fl gs)) (hsz : bulk xss + ws.length + gs.length ≤ 1050000) : New Try.prog 30 [.agg #[.slice a xss.length c, .slice a1 ws.length c1, .slice a2 gs.length c2], .int .i64 bi] w (fun p : (Option Addr × Nat) × (Option Addr × Nat) => .tuple #[.slice p.1.1 (blockAD xss ws gs bi).length p.1.2, .slice p.2.1 (blockBD xss ws gs bi).length p.2.2, .bool (blockOk xss ws gs bi)]) (fun p => [⟨p.2.1, fl (blockBD xss ws gs bi), p.2.2 * 1, 26⟩, ⟨p.1.1, fl (blockAD xss ws gs bi), p.1.2 * 1, 26⟩]) := by
  refine New.enter Try.func30 rfl Try.ntmps30 (Nat.le_of_ble_eq_true rfl) ?_
  have hr : ∀ i, i < xss.length → (xss.getD i []).length ≤ 1050000 := fun i hi => by have := bulk_row hi; omega
  have hxl : xss.length ≤ bulk xss := by unfold bulk; omega
  have hbn := blocksN_le xss.length
  refine V.seq (V.region ?_)
  refine VL.new1 (.inl rfl) rfl (by decide) (yn_box rfl rfl (.inr ⟨rfl, rfl⟩)) ?_
  intro b2
  refine vr (yr_assign (u := .slice none 0 0) rfl rfl) ?_
  refine vr (yr_assign (u := .slice none 0 0) rfl rfl) ?_
  refine vr (yr_assign (u := .bool false) rfl rfl) ?_
  refine VL.nil (VE.then_wp (V.seq (V.seq (V.region ?_))))
  refine vq (yq_loadS rfl Try.underlying30 sz30_Block rfl zz0 rfl rfl rfl) ?_
  refine vq (yq_callf rfl known27_Block (.cons rfl .nil) (fun w hw => (c_implValid zz1 zz7 zz1 zz1 (by omega)))) ?_
  refine vr (yr_not rfl rfl) ?_
  refine vr (yr_move rfl rfl) ?_
  refine VX.split 12 _ rfl (fun h1 => ?_) (fun h1 => ?_)
  · skip
    replace h1 := bnot_t h1
    refine vn ?_
    refine vn ?_
    refine vn ?_
    refine vn ?_
    refine vn ?_
    refine vn ?_
    refine vr (yr_pick_t (u := .bool true) rfl rfl rfl) ?_
    refine VL.nil (VE.then_wp ?_)
    refine V.condT rfl ?_
    refine V.seq (V.region ?_)
    refine vr (yr_assign (u := .slice none 0 0) rfl rfl) ?_
    refine vr (yr_assign (u := .slice none 0 0) rfl rfl) ?_
    refine vr (yr_assign (u := .bool false) rfl rfl) ?_
    refine VL.nil (VE.then_wp (V.ret (VE.then_ret ?_)))
    refine ret3 rfl rfl rfl rfl (by nofun) (by nofun) (by nofun) (fun w1 hw => ?_)
    first
      | exact ⟨((some ⟨b23, 0, none⟩, (xss.getD 0 []).length * (xss.getD 0 []).length), (some ⟨e23, 0, none⟩, (xss.getD 0 []).length)), by rw [blockAD_yes hs, blockBD_yes hs, hs, blockA_length, blockB_length] <;> rfl, by rw [blockAD_yes hs, blockBD_yes hs]; exact hw.outs (((List.nil_sublist _).cons_cons _).cons_cons _)⟩
      | (have hs : blockOk xss ws gs bi = false := by first | exact block_no (by assumption) | exact block_no2 (by assumption)
         exact ⟨((none, 0), (none, 0)), by rw [blockAD_no hs, blockBD_no hs, hs]; rfl, hw.below, by rw [blockAD_no hs, blockBD_no hs]; simp [fl, Ent.at], by simp [Ent.apart]⟩)
  replace h1 := bnot_f h1
  refine VL.r (.inr ⟨_, _, _, rfl, rfl, rfl⟩) rfl (by decide) (yr_move rfl rfl) ?_
  refine VL.q (.inr ⟨_, _, _, rfl, rfl, rfl⟩) rfl (by decide) (yq_loadS rfl Try.underlying30 sz30_Block rfl zz0 rfl rfl rfl) ?_
  refine VL.q (.inr ⟨_, _, _, rfl, rfl, rfl⟩) rfl (by decide) (yq_callf rfl known44_Block (.cons rfl .nil) (fun w hw => (c_blocks (by omega)))) ?_
  refine VL.r (.inr ⟨_, _, _, rfl, rfl, rfl⟩) rfl (by decide) (yr_int rfl rfl rfl (.inr (.inl ⟨rfl, wrap_in (by omega)⟩))) ?_
  refine VL.q (.inr ⟨_, _, _, rfl, rfl, rfl⟩) rfl (by decide) (yq_callf rfl known43_Block (.cons rfl (.cons rfl (.cons rfl .nil))) (fun w hw => c_within)) ?_
  refine VL.r (.inr ⟨_, _, _, rfl, rfl, rfl⟩) rfl (by decide) (yr_not rfl rfl) ?_
  refine vr (yr_pick_f rfl rfl rfl) ?_
  refine VL.nil (VE.then_wp ?_)
  refine V.cond rfl (fun h3 => ?_) (fun h3 => ?_)
  · skip
    replace h3 := bnot_t h3
    refine V.seq (V.region ?_)
    refine vr (yr_assign (u := .slice none 0 0) rfl rfl) ?_
    refine vr (yr_assign (u := .slice none 0 0) rfl rfl) ?_
    refine vr (yr_assign (u := .bool false) rfl rfl) ?_
    refine VL.nil (VE.then_wp (V.ret (VE.then_ret ?_)))
    refine ret3 rfl rfl rfl rfl (by nofun) (by nofun) (by nofun) (fun w1 hw => ?_)
    first
      | exact ⟨((some ⟨b23, 0, none⟩, (xss.getD 0 []).length * (xss.getD 0 []).length), (some ⟨e23, 0, none⟩, (xss.getD 0 []).length)), by rw [blockAD_yes hs, blockBD_yes hs, hs, blockA_length, blockB_length] <;> rfl, by rw [blockAD_yes hs, blockBD_yes hs]; exact hw.outs (((List.nil_sublist _).cons_cons _).cons_cons _)⟩
      | (have hs : blockOk xss ws gs bi = false := by first | exact block_no (by assumption) | exact block_no2 (by assumption)
         exact ⟨((none, 0), (none, 0)), by rw [blockAD_no hs, blockBD_no hs, hs]; rfl, hw.below, by rw [blockAD_no hs, blockBD_no hs]; simp [fl, Ent.at], by simp [Ent.apart]⟩)
  replace h3 := bnot_f h3
  have hs : blockOk xss ws gs bi = true := block_yes (by assumption) (by assumption)
  obtain ⟨hval, hb0, hb1, hb2⟩ := block_is hs
  refine V.skip (VE.then_wp (V.seq (V.region ?_)))
  refine vq (yq_loadS rfl Try.underlying30 sz30_Block rfl zz0 rfl rfl rfl) ?_
  refine vr (yr_move rfl rfl) ?_
  refine VL.new (.inl rfl) rfl (by decide) (yn_callf rfl known47_Block (.cons rfl (.cons rfl .nil)) (fun w hw => (c_block (blk := bi.toNat) zz1 zz7 zz1 zz1 (by omega) (by assumption) (by omega) rfl rfl (by omega)))) ?_
  rintro ⟨b23, e23⟩
  refine vr (yr_move rfl rfl) ?_
  refine vr (yr_extract rfl rfl rfl (by nofun)) ?_
  refine vr (yr_extract rfl rfl rfl (by nofun)) ?_
  refine vr (yr_assign rfl rfl) ?_
  refine vr (yr_assign rfl rfl) ?_
  refine VL.nil (VE.then_wp (V.seq (V.region ?_)))
  refine vr (yr_move rfl rfl) ?_
  refine vr (yr_move rfl rfl) ?_
  refine vr (yr_assign rfl rfl) ?_
  refine vr (yr_assign rfl rfl) ?_
  refine vr (yr_assign (u := .bool true) rfl rfl) ?_
  refine VL.nil (VE.then_wp (V.ret ?_))
  refine ret3 rfl rfl rfl rfl (by nofun) (by nofun) (by nofun) (fun w1 hw => ?_)
  first
    | exact ⟨((some ⟨b23, 0, none⟩, (xss.getD 0 []).length * (xss.getD 0 []).length), (some ⟨e23, 0, none⟩, (xss.getD 0 []).length)), by rw [blockAD_yes hs, blockBD_yes hs, hs, blockA_length, blockB_length] <;> rfl, by rw [blockAD_yes hs, blockBD_yes hs]; exact hw.outs (((List.nil_sublist _).cons_cons _).cons_cons _)⟩
    | (have hs : blockOk xss ws gs bi = false := by first | exact block_no (by assumption) | exact block_no2 (by assumption)
       exact ⟨((none, 0), (none, 0)), by rw [blockAD_no hs, blockBD_no hs, hs]; rfl, hw.below, by rw [blockAD_no hs, blockBD_no hs]; simp [fl, Ent.at], by simp [Ent.apart]⟩)
end Go.Proofs.Ytgeflnjjppgooaa.Q

namespace Go.Proofs.Ytgeflnjjppgooaa.Q
open Go.RowKit
set_option linter.unusedVariables false
set_option linter.unusedSimpArgs false
set_option maxRecDepth 20000
set_option maxHeartbeats 800000
attribute [local irreducible] wqList Wq
theorem mixed_Square : Try.prog.follows .mixedOrders = true := by kernel_rfl
theorem sz26_Square : (Try.prog.info? 26).map (·.size) = some 1 := by kernel_rfl
theorem fb26_Square : flatB Try.prog 26 = true := by kernel_rfl
theorem sz30_Square : (Try.prog.info? 30).map (·.size) = some 3 := by kernel_rfl
theorem known27_Square : Known Try.prog 27 := Known.mk' Try.func27 (by kernel_rfl)
theorem sz22_Square : (Try.prog.info? 22).map (·.size) = some 1 := by kernel_rfl
theorem fb22_Square : flatB Try.prog 22 = true := by kernel_rfl
theorem sz23_Square : (Try.prog.info? 23).map (·.size) = some 1 := by kernel_rfl
theorem fb23_Square : flatB Try.prog 23 = true := by kernel_rfl
theorem elt26_Square : Elt Try.prog 26 [Value.float .f32 0] 4 := Elt.mk' (by kernel_rfl) (by decide)
theorem known57_Square : Known Try.prog 57 := Known.mk' Try.func57 (by kernel_rfl)
theorem known90_Square : Known Try.prog 90 := Known.mk' Try.func90 (by kernel_rfl)
theorem c_dot [PhC] {w : World} {a b : Option Addr} {c d : Nat} {xs ys : List Nat} (hA : Cl w a (fl xs)) (hB : Cl w b (fl ys)) (hl : xs.length = ys.length) (hn : xs.length ≤ 1050000) : Pure Try.prog 57 [.slice a xs.length c, .slice b ys.length d] w (.float .f32 (dotK xs ys ys.length)) := by
  refine Pure.enter Try.func57 rfl Try.ntmps57 (Nat.le_of_ble_eq_true rfl) ?_
  refine V.seq (V.region ?_)
  refine vr (yr_assign (u := .float .f32 0) rfl rfl) ?_
  refine VL.nil (VE.then_wp (V.seq (V.region ?_)))
  refine vr (yr_assign (u := .float .f32 0) rfl rfl) ?_
  refine VL.nil (VE.then_wp (V.seq (V.seq (V.region ?_))))
  refine vr (yr_move rfl rfl) ?_
  refine vr (yr_len rfl Try.underlying23 rfl) ?_
  refine vr (yr_move (u := .int .i64 0) rfl rfl) ?_
  refine VL.nil (VE.then_wp (V.block ?_))
  refine V.loops (G := Nat) [(0, _), (1, _), (8, _)] (fun (k : Nat) => k ≤ xs.length) (fun (k : Nat) => [(5, .float .f32 (dotK xs ys k)), (9, .int .i64 (k : Int))]) (fun (k : Nat) => xs.length - k) 0 (.cons rfl (.cons rfl (.cons rfl .nil))) (.cons rfl (.cons rfl .nil)) ?_ ?_
  · exact (by omega)
  rintro k hk
  show V _ _ _ _ ([(5, .float .f32 (dotK xs ys k)), (9, .int .i64 (k : Int))] ++ [(0, _), (1, _), (8, _)]) _ _
  refine V.seq (V.region ?_)
  refine vr (yr_icmp rfl (.inr (.inr (.inl rfl))) rfl rfl) ?_
  refine VL.nil (VE.then_wp (V.seq ?_))
  refine V.cond rfl (fun h1 => ?_) (fun h1 => ?_)
  · skip
    replace h1 := ic_lss h1
    refine V.skip (VE.then_wp (V.seq (V.block (V.seq (V.region ?_)))))
    refine vr (yr_move rfl rfl) ?_
    refine vr (yr_assign rfl rfl) ?_
    refine VL.nil (VE.then_wp ?_)
    refine V.draw [(0, 0), (1, 0), (2, 0), (3, 0), (4, 0), (5, 0), (6, 0), (7, 0), (8, 0), (9, 0), (10, 0), (11, 0)] mixed_Square (by kernel_rfl) (by intro j o hj; simp at hj) ?_
    refine sr rfl (yr_move rfl rfl) ?_
    refine sr rfl (yr_move rfl rfl) ?_
    refine sr rfl (yr_move rfl rfl) ?_
    refine sq rfl (yq_idx (k := k) rfl Try.underlying23 sz26_Square rfl rfl zz0 zz3 (by exact fl_length _) (by omega)) ?_
    refine sq rfl (yq_loadF rfl fb26_Square rfl zz0 (by omega)) ?_
    refine sr rfl (yr_move rfl rfl) ?_
    refine sr rfl (yr_move rfl rfl) ?_
    refine sq rfl (yq_idx (k := k) rfl Try.underlying23 sz26_Square rfl rfl zz0 zz3 (by exact fl_length _) (by omega)) ?_
    refine sq rfl (yq_loadF rfl fb26_Square rfl zz0 (by omega)) ?_
    refine sr rfl (yr_float rfl (.inr (.inr (.inl rfl))) rfl rfl) ?_
    refine sr rfl (yr_float rfl (.inl rfl) rfl rfl) ?_
    refine sr rfl (yr_assign rfl rfl) ?_
    refine SW.done ?_
    refine VE.block_normal (VE.then_wp (V.region ?_))
    refine vr (yr_int rfl rfl rfl (.inl ⟨rfl, wrap_in (by omega)⟩)) ?_
    refine vr (yr_move rfl rfl) ?_
    refine VL.nil ?_
    refine VE.round (k + 1) ?_ ?_ ?_ ?_ ?_
    · exact (.cons rfl (.cons rfl .nil))
    · exact (.cons rfl (.cons rfl (.cons rfl .nil)))
    · exact (fun w hw => hw)
    · omega
    · (try dsimp only); omega
  replace h1 := ic_lss' h1
  refine V.exit ?_
  refine VE.then_exit (VE.then_exit (VE.block_here (VE.then_wp (V.seq (V.region ?_)))))
  refine vr (yr_move rfl rfl) ?_
  refine vr (yr_assign rfl rfl) ?_
  refine VL.nil (VE.then_wp (V.ret ?_))
  refine ret1 rfl rfl (fun w1 hw => ?_)
  obtain rfl : k = ys.length := by omega
  exact ⟨rfl, hw.below⟩
theorem c_areCurrents [PhC] {w : World} {a a1 a2 : Option Addr} {c c1 c2 : Nat} {f : Nat → Option Addr × Nat} {xss : List (List Nat)} {ws gs : List Nat} {b : Option Addr} {d : Nat} {x : List Nat} (hA : Cl w a (hd f xss)) (hR : Rws w f xss) (hW : Cl w a1 (fl ws)) (hG : Cl w a2 (fl gs)) (hB : Cl w b (fl x)) (hsz : bulk xss + ws.length + gs.length ≤ 1050000) : Pure Try.prog 55 [.agg #[.slice a xss.length c, .slice a1 ws.length c1, .slice a2 gs.length c2], .slice b x.length d] w (.bool (fitsD xss ws gs x)) := by
  refine Pure.enter Try.func55 rfl Try.ntmps55 (Nat.le_of_ble_eq_true rfl) ?_
  have hr : ∀ i, i < xss.length → (xss.getD i []).length ≤ 1050000 := fun i hi => by have := bulk_row hi; omega
  have hxl : xss.length ≤ bulk xss := by unfold bulk; omega
  refine V.seq (V.region ?_)
  refine VL.new1 (.inl rfl) rfl (by decide) (yn_box rfl rfl (.inr ⟨rfl, rfl⟩)) ?_
  intro b2
  refine vr (yr_assign (u := .bool false) rfl rfl) ?_
  refine VL.nil (VE.then_wp (V.seq (V.region ?_)))
  refine vq (yq_loadS rfl Try.underlying30 sz30_Square rfl zz0 rfl rfl rfl) ?_
  refine vq (yq_callf rfl known27_Square (.cons rfl .nil) (fun w hw => (c_implValid zz1 zz7 zz1 zz1 (by omega)))) ?_
  refine vr (yr_move rfl rfl) ?_
  refine VX.split 7 _ rfl (fun h1 => ?_) (fun h1 => ?_)
  · skip
    have hv := valid_is h1
    obtain ⟨v1, v2, v3, v4, v5, v6, v7, v8⟩ := hv
    refine VL.r (.inr ⟨_, _, _, rfl, rfl, rfl⟩) rfl (by decide) (yr_move rfl rfl) ?_
    refine VL.r (.inr ⟨_, _, _, rfl, rfl, rfl⟩) rfl (by decide) (yr_len rfl Try.underlying23 rfl) ?_
    refine VL.r (.inr ⟨_, _, _, rfl, rfl, rfl⟩) rfl (by decide) (yr_fieldAddr rfl Try.underlying30 rfl rfl sz22_Square (by decide) rfl) ?_
    refine VL.q (.inr ⟨_, _, _, rfl, rfl, rfl⟩) rfl (by decide) (yq_load rfl fb22_Square rfl zz0 rfl) ?_
    refine VL.q (.inr ⟨_, _, _, rfl, rfl, rfl⟩) rfl (by decide) (yq_idx (k := 0) rfl Try.underlying22 sz23_Square rfl rfl zz0 zz3 (by first | exact fl_length _ | exact hd_length _ _ | simp) (by omega)) ?_
    refine VL.q (.inr ⟨_, _, _, rfl, rfl, rfl⟩) rfl (by decide) (yq_loadH rfl fb23_Square rfl zz0 (by omega)) ?_
    refine VL.r (.inr ⟨_, _, _, rfl, rfl, rfl⟩) rfl (by decide) (yr_len rfl Try.underlying23 rfl) ?_
    refine VL.r (.inr ⟨_, _, _, rfl, rfl, rfl⟩) rfl (by decide) (yr_icmp rfl (.inl rfl) rfl rfl) ?_
    refine vr (yr_pick_t rfl rfl rfl) ?_
    refine vr (yr_assign rfl rfl) ?_
    refine VL.nil (VE.then_wp (V.ret ?_))
    refine ret1 rfl rfl (fun w1 hw => ?_)
    exact ⟨congrArg Value.bool (by rw [fitsD, h1, Bool.true_and]; exact icmp_eqN _ _), hw.below⟩
  refine vn ?_
  refine vn ?_
  refine vn ?_
  refine vn ?_
  refine vn ?_
  refine vn ?_
  refine vn ?_
  refine vn ?_
  refine vr (yr_pick_f (u := .bool false) rfl rfl rfl) ?_
  refine vr (yr_assign rfl rfl) ?_
  refine VL.nil (VE.then_wp (V.ret ?_))
  refine ret1 rfl rfl (fun w1 hw => ?_)
  exact ⟨by rw [fitsD, h1, Bool.false_and], hw.below⟩
theorem c_misses [PhC] {w : World} {a a1 a2 : Option Addr} {c c1 c2 : Nat} {f : Nat → Option Addr × Nat} {xss : List (List Nat)} {ws gs : List Nat} {b : Option Addr} {d : Nat} {x : List Nat} (hA : Cl w a (hd f xss)) (hR : Rws w f xss) (hW : Cl w a1 (fl ws)) (hG : Cl w a2 (fl gs)) (hB : Cl w b (fl x)) (hsz : bulk xss + ws.length + gs.length ≤ 1050000) (hfit : fitsD xss ws gs x = true) : New Try.prog 90 [.agg #[.slice a xss.length c, .slice a1 ws.length c1, .slice a2 gs.length c2], .slice b x.length d] w (fun p : Option Addr × Nat => .slice p.1 xss.length p.2) (fun p => [⟨p.1, fl (missL xss ws x xss.length), p.2 * 1, 26⟩]) := by
  refine New.enter Try.func90 rfl Try.ntmps90 (Nat.le_of_ble_eq_true rfl) ?_
  have hr : ∀ i, i < xss.length → (xss.getD i []).length ≤ 1050000 := fun i hi => by have := bulk_row hi; omega
  have hxl : xss.length ≤ bulk xss := by unfold bulk; omega
  obtain ⟨⟨v1, v2, v3, v4, v5, v6, v7, v8⟩, hxn, hrow⟩ := fits_is hfit
  refine V.seq (V.region ?_)
  refine VL.new1 (.inl rfl) rfl (by decide) (yn_box rfl rfl (.inr ⟨rfl, rfl⟩)) ?_
  intro b2
  refine vr (yr_assign (u := .slice none 0 0) rfl rfl) ?_
  refine VL.nil (VE.then_wp (V.seq (V.region ?_)))
  refine VL.new1 (.inl rfl) rfl (by decide) (yn_lit rfl Try.underlying23 elt26_Square rfl (by decide) .nil (by first | (simp; done) | (simp [cn, cn1, cn0]; done)) rfl rfl rfl) ?_
  intro b8
  refine vr (yr_assign rfl rfl) ?_
  refine VL.nil (VE.then_wp (V.seq (V.seq (V.region ?_))))
  refine vr (yr_fieldAddr rfl Try.underlying30 rfl rfl sz22_Square (by decide) rfl) ?_
  refine vq (yq_load rfl fb22_Square rfl zz0 rfl) ?_
  refine vr (yr_len rfl Try.underlying22 rfl) ?_
  refine vr (yr_move (u := .int .i64 0) rfl rfl) ?_
  refine VL.nil (VE.then_wp (V.block ?_))
  refine V.loopc (G := Nat × (Option Addr) × Nat) [(1, _), (2, _), (10, _), (11, _)] (fun ⟨k, a5, c5⟩ => k ≤ xss.length) (fun ⟨k, a5, c5⟩ => [⟨a5, fl (missL xss ws x k), c5 * 1, 26⟩, ⟨some ⟨b2, 0, none⟩, [.slice a xss.length c, .slice a1 ws.length c1, .slice a2 gs.length c2], 3, 30⟩]) (fun ⟨k, a5, c5⟩ => [(5, .slice a5 k c5), (12, .int .i64 (k : Int))]) (fun ⟨k, a5, c5⟩ => xss.length - k) (0, some ⟨b8, 0, none⟩, 0) (.cons rfl (.cons rfl (.cons rfl (.cons rfl .nil)))) (.cons rfl (.cons rfl .nil)) ?_ ?_ ?_
  · exact (fun w hw => hw)
  · exact (by omega)
  rintro ⟨k, a5, c5⟩ hk
  show V _ _ _ [⟨a5, fl (missL xss ws x k), c5 * 1, 26⟩, ⟨some ⟨b2, 0, none⟩, [.slice a xss.length c, .slice a1 ws.length c1, .slice a2 gs.length c2], 3, 30⟩] ([(5, .slice a5 k c5), (12, .int .i64 (k : Int))] ++ [(1, _), (2, _), (10, _), (11, _)]) _ _
  refine V.seq (V.region ?_)
  refine vr (yr_icmp rfl (.inr (.inr (.inl rfl))) rfl rfl) ?_
  refine VL.nil (VE.then_wp (V.seq ?_))
  refine V.cond rfl (fun h1 => ?_) (fun h1 => ?_)
  · skip
    replace h1 := ic_lss h1
    refine V.skip (VE.then_wp (V.seq (V.block (V.seq (V.region ?_)))))
    refine vr (yr_move rfl rfl) ?_
    refine vq (yq_idx (k := k) rfl Try.underlying22 sz23_Square rfl rfl zz0 zz3 (by first | exact fl_length _ | exact hd_length _ _ | simp) (by omega)) ?_
    refine vq (yq_loadH rfl fb23_Square rfl zz0 (by omega)) ?_
    refine vr (yr_assign rfl rfl) ?_
    refine vr (yr_assign rfl rfl) ?_
    refine VL.nil (VE.then_wp ?_)
    refine V.draw [(0, 0), (1, 0), (2, 0), (3, 0), (4, 0), (5, 0), (6, 0), (7, 0), (8, 0), (9, 0), (10, 1), (11, 3), (12, 0)] mixed_Square (by kernel_rfl) (by intro j o hj; simp at hj) ?_
    refine sr rfl (yr_move rfl rfl) ?_
    refine sr rfl (yr_fieldAddr rfl Try.underlying30 rfl rfl sz23_Square (by decide) rfl) ?_
    refine sq rfl (yq_load rfl fb23_Square rfl zz0 rfl) ?_
    refine sr rfl (yr_move rfl rfl) ?_
    refine sq rfl (yq_idx (k := k) rfl Try.underlying23 sz26_Square rfl rfl zz0 zz3 (by first | exact fl_length _ | exact hd_length _ _ | simp) (by omega)) ?_
    refine sq rfl (yq_loadF rfl fb26_Square rfl zz0 (by omega)) ?_
    refine sr rfl (yr_move rfl rfl) ?_
    refine sr rfl (yr_move rfl rfl) ?_
    refine sq rfl (yq_callf rfl known57_Square (.cons rfl (.cons rfl .nil)) (fun w hw => (c_dot (hR.root hw k (by omega)) zz1 (hrow k (by omega)) (hr k (by omega))))) ?_
    refine sr rfl (yr_float rfl (.inr (.inl rfl)) rfl rfl) ?_
    refine SW.new1 rfl (.inl rfl) rfl (by decide) (yn_lit rfl Try.underlying23 elt26_Square rfl (by decide) (.cons rfl .nil) (by first | (simp; done) | (simp [cn, cn1, cn0]; done)) rfl rfl rfl) ?_
    intro b27
    refine SW.c rfl (.inl rfl) rfl (by decide) (yc_appendz 1 rfl rfl Try.underlying23 elt26_Square rfl rfl zz8 zz0 rfl (by rw [fl_length, missL_length]; simp) (by first | rfl | simp) (by first | rfl | exact fl_scal _) (by first | rfl | exact fl_scal _) (by omega) (by omega)) ?_
    rintro ⟨a28, c28⟩
    refine sr rfl (yr_assign rfl rfl) ?_
    refine SW.done ?_
    refine VE.block_normal (VE.then_wp (V.region ?_))
    refine vr (yr_int rfl rfl rfl (.inl ⟨rfl, wrap_in (by omega)⟩)) ?_
    refine vr (yr_move rfl rfl) ?_
    refine VL.nil ?_
    refine VE.round (k + 1, a28, c28) ?_ ?_ ?_ ?_ ?_
    · exact (.cons rfl (.cons rfl .nil))
    · exact (.cons rfl (.cons rfl (.cons rfl (.cons rfl .nil))))
    · exact (fun w hw => by have h9 := hw.sub (List.sublist_cons_self _ _); rw [fl_snoc, show fop .sub .f32 (ws.getD k 0) (dotK (xss.getD k []) x x.length) = missAt xss ws x k from rfl, missL_succ] at h9; exact h9)
    · omega
    · (try dsimp only); omega
  replace h1 := ic_lss' h1
  refine V.exit ?_
  refine VE.then_exit (VE.then_exit (VE.block_here (VE.then_wp (V.seq (V.region ?_)))))
  refine vr (yr_move rfl rfl) ?_
  refine vr (yr_assign rfl rfl) ?_
  refine VL.nil (VE.then_wp (V.ret ?_))
  refine ret1 rfl rfl (fun w1 hw => ?_)
  obtain rfl : k = xss.length := by omega
  exact ⟨(a5, c5), rfl, hw.out1⟩
theorem c_square [PhC] {w : World} {a a1 a2 : Option Addr} {c c1 c2 : Nat} {f : Nat → Option Addr × Nat} {xss : List (List Nat)} {ws gs : List Nat} {b : Option Addr} {d : Nat} {x : List Nat} (hA : Cl w a (hd f xss)) (hR : Rws w f xss) (hW : Cl w a1 (fl ws)) (hG : Cl w a2 (fl gs)) (hB : Cl w b (fl x)) (hsz : bulk xss + ws.length + gs.length ≤ 1050000) (hfit : fitsD xss ws gs x = true) : Pure Try.prog 56 [.agg #[.slice a xss.length c, .slice a1 ws.length c1, .slice a2 gs.length c2], .slice b x.length d] w (.float .f32 (sqK xss ws gs x xss.length)) := by
  refine Pure.enter Try.func56 rfl Try.ntmps56 (Nat.le_of_ble_eq_true rfl) ?_
  have hr : ∀ i, i < xss.length → (xss.getD i []).length ≤ 1050000 := fun i hi => by have := bulk_row hi; omega
  have hxl : xss.length ≤ bulk xss := by unfold bulk; omega
  obtain ⟨⟨v1, v2, v3, v4, v5, v6, v7, v8⟩, hxn, hrow⟩ := fits_is hfit
  refine V.seq (V.region ?_)
  refine VL.new1 (.inl rfl) rfl (by decide) (yn_box rfl rfl (.inr ⟨rfl, rfl⟩)) ?_
  intro b2
  refine vr (yr_assign (u := .float .f32 0) rfl rfl) ?_
  refine VL.nil (VE.then_wp (V.seq (V.region ?_)))
  refine vr (yr_assign (u := .float .f32 0) rfl rfl) ?_
  refine VL.nil (VE.then_wp (V.seq (V.seq (V.region ?_))))
  refine vq (yq_loadS rfl Try.underlying30 sz30_Square rfl zz0 rfl rfl rfl) ?_
  refine vr (yr_move rfl rfl) ?_
  refine VL.new1 (.inl rfl) rfl (by decide) (yn_callf rfl known90_Square (.cons rfl (.cons rfl .nil)) (fun w hw => (c_misses zz1 zz7 zz1 zz1 zz1 (by omega) (by assumption)))) ?_
  rintro ⟨a10, c10⟩
  refine vr (yr_len rfl Try.underlying23 rfl) ?_
  refine vr (yr_move (u := .int .i64 0) rfl rfl) ?_
  refine VL.nil (VE.then_wp (V.block ?_))
  refine V.loops (G := Nat) [(2, _), (10, _), (11, _)] (fun (k : Nat) => k ≤ xss.length) (fun (k : Nat) => [(5, .float .f32 (sqK xss ws gs x k)), (12, .int .i64 (k : Int))]) (fun (k : Nat) => xss.length - k) 0 (.cons rfl (.cons rfl (.cons rfl .nil))) (.cons rfl (.cons rfl .nil)) ?_ ?_
  · exact (by omega)
  rintro k hk
  show V _ _ _ _ ([(5, .float .f32 (sqK xss ws gs x k)), (12, .int .i64 (k : Int))] ++ [(2, _), (10, _), (11, _)]) _ _
  refine V.seq (V.region ?_)
  refine vr (yr_icmp rfl (.inr (.inr (.inl rfl))) rfl rfl) ?_
  refine VL.nil (VE.then_wp (V.seq ?_))
  refine V.cond rfl (fun h1 => ?_) (fun h1 => ?_)
  · skip
    replace h1 := ic_lss h1
    refine V.skip (VE.then_wp (V.seq (V.block (V.seq (V.region ?_)))))
    refine vr (yr_move rfl rfl) ?_
    refine vq (yq_idx (k := k) rfl Try.underlying23 sz26_Square rfl rfl zz0 zz3 (by first | exact fl_length _ | (rw [fl_length, missL_length])) (by first | omega | (rw [missL_length]; omega))) ?_
    refine vq (yq_loadF rfl fb26_Square rfl zz0 (by first | omega | (rw [missL_length]; omega))) ?_
    refine vr (yr_assign rfl rfl) ?_
    refine vr (yr_assign rfl rfl) ?_
    refine VL.nil (VE.then_wp (V.region ?_))
    refine vr (yr_move rfl rfl) ?_
    refine vr (yr_fieldAddr rfl Try.underlying30 rfl rfl sz23_Square (by decide) rfl) ?_
    refine vq (yq_load rfl fb23_Square rfl zz0 rfl) ?_
    refine vr (yr_move rfl rfl) ?_
    refine vq (yq_idx (k := k) rfl Try.underlying23 sz26_Square rfl rfl zz0 zz3 (by first | exact fl_length _ | (rw [fl_length, missL_length])) (by first | omega | (rw [missL_length]; omega))) ?_
    refine vq (yq_loadF rfl fb26_Square rfl zz0 (by first | omega | (rw [missL_length]; omega))) ?_
    refine vr (yr_move rfl rfl) ?_
    refine vr (yr_float rfl (.inr (.inr (.inl rfl))) rfl rfl) ?_
    refine vr (yr_move rfl rfl) ?_
    refine vr (yr_float rfl (.inr (.inr (.inl rfl))) rfl rfl) ?_
    refine vr (yr_float rfl (.inl rfl) rfl rfl) ?_
    refine vr (yr_assign rfl rfl) ?_
    refine VL.nil (VE.block_normal (VE.then_wp (V.region ?_)))
    refine vr (yr_int rfl rfl rfl (.inl ⟨rfl, wrap_in (by omega)⟩)) ?_
    refine vr (yr_move rfl rfl) ?_
    refine VL.nil ?_
    refine VE.round (k + 1) ?_ ?_ ?_ ?_ ?_
    · exact (.cons (congrArg (fun x => some (Value.float .f32 x)) (by rw [missL_get _ _ _ (by omega)]; rfl)) (.cons rfl .nil))
    · exact (.cons rfl (.cons rfl (.cons rfl .nil)))
    · exact (fun w hw => hw)
    · omega
    · (try dsimp only); omega
  replace h1 := ic_lss' h1
  refine V.exit ?_
  refine VE.then_exit (VE.then_exit (VE.block_here (VE.then_wp (V.seq (V.region ?_)))))
  refine vr (yr_move rfl rfl) ?_
  refine vr (yr_assign rfl rfl) ?_
  refine VL.nil (VE.then_wp (V.ret ?_))
  refine ret1 rfl rfl (fun w1 hw => ?_)
  obtain rfl : k = xss.length := by omega
  exact ⟨rfl, hw.below⟩
end Go.Proofs.Ytgeflnjjppgooaa.Q

namespace Go.Proofs.Ytgeflnjjppgooaa.Q
open Go.RowKit
set_option linter.unusedVariables false
set_option linter.unusedSimpArgs false
set_option maxRecDepth 20000
set_option maxHeartbeats 800000
attribute [local irreducible] wqList Wq
theorem sz30_Ridge : (Try.prog.info? 30).map (·.size) = some 3 := by kernel_rfl
theorem known55_Ridge : Known Try.prog 55 := Known.mk' Try.func55 (by kernel_rfl)
theorem known42_Ridge : Known Try.prog 42 := Known.mk' Try.func42 (by kernel_rfl)
theorem known56_Ridge : Known Try.prog 56 := Known.mk' Try.func56 (by kernel_rfl)
theorem known57_Ridge : Known Try.prog 57 := Known.mk' Try.func57 (by kernel_rfl)
theorem c_implRidge [PhC] {w : World} {a a1 a2 : Option Addr} {c c1 c2 : Nat} {f : Nat → Option Addr × Nat} {xss : List (List Nat)} {ws gs : List Nat} {b : Option Addr} {d : Nat} {x : List Nat} {r : Nat} (hA : Cl w a (hd f xss)) (hR : Rws w f xss) (hW : Cl w a1 (fl ws)) (hG : Cl w a2 (fl gs)) (hB : Cl w b (fl x)) (hsz : bulk xss + ws.length + gs.length ≤ 1050000) : Pure Try.prog 24 [.agg #[.slice a xss.length c, .slice a1 ws.length c1, .slice a2 gs.length c2], .slice b x.length d, .float .f32 r] w (.tuple #[.float .f32 (ridgeD xss ws gs x r), .bool (ridgeOk xss ws gs x r)]) := by
  refine Pure.enter Try.func24 rfl Try.ntmps24 (Nat.le_of_ble_eq_true rfl) ?_
  have hr : ∀ i, i < xss.length → (xss.getD i []).length ≤ 1050000 := fun i hi => by have := bulk_row hi; omega
  have hxl : xss.length ≤ bulk xss := by unfold bulk; omega
  refine V.seq (V.region ?_)
  refine VL.new1 (.inl rfl) rfl (by decide) (yn_box rfl rfl (.inr ⟨rfl, rfl⟩)) ?_
  intro b3
  refine vr (yr_assign (u := .float .f32 0) rfl rfl) ?_
  refine vr (yr_assign (u := .bool false) rfl rfl) ?_
  refine VL.nil (VE.then_wp (V.seq (V.seq (V.region ?_))))
  refine vq (yq_loadS rfl Try.underlying30 sz30_Ridge rfl zz0 rfl rfl rfl) ?_
  refine vr (yr_move rfl rfl) ?_
  refine vq (yq_callf rfl known55_Ridge (.cons rfl (.cons rfl .nil)) (fun w hw => (c_areCurrents zz1 zz7 zz1 zz1 zz1 (by omega)))) ?_
  refine vr (yr_not rfl rfl) ?_
  refine vr (yr_move rfl rfl) ?_
  refine VX.split 12 _ rfl (fun h1 => ?_) (fun h1 => ?_)
  · skip
    replace h1 := bnot_t h1
    refine vn ?_
    refine vn ?_
    refine vn ?_
    refine vr (yr_pick_t (u := .bool true) rfl rfl rfl) ?_
    refine vr (yr_move rfl rfl) ?_
    refine vn ?_
    refine vn ?_
    refine vn ?_
    refine vr (yr_pick_t (u := .bool true) rfl rfl rfl) ?_
    refine VL.nil (VE.then_wp ?_)
    refine V.condT rfl ?_
    refine V.seq (V.region ?_)
    refine vr (yr_assign (u := .float .f32 0) rfl rfl) ?_
    refine vr (yr_assign (u := .bool false) rfl rfl) ?_
    refine VL.nil (VE.then_wp (V.ret (VE.then_ret ?_)))
    refine ret2 rfl rfl rfl (by nofun) (by nofun) (fun w1 hw => ?_)
    have hs : ridgeOk xss ws gs x r = false := by first | (simp only [ridgeOk, *, Bool.false_and, Bool.and_false, Bool.and_true]; done) | (simp only [ridgeOk, least, *, Bool.false_and, Bool.and_false, Bool.and_true]; done)
    exact ⟨by rw [ridgeD_no hs, hs], hw.below⟩
  replace h1 := bnot_f h1
  have hfit := h1
  obtain ⟨⟨v1, v2, v3, v4, v5, v6, v7, v8⟩, hxn, hrow⟩ := fits_is hfit
  refine VL.r (.inr ⟨_, _, _, rfl, rfl, rfl⟩) rfl (by decide) (yr_move rfl rfl) ?_
  refine VL.q (.inr ⟨_, _, _, rfl, rfl, rfl⟩) rfl (by decide) (yq_callf rfl known42_Ridge (.cons rfl .nil) (fun w hw => c_IsFinite _)) ?_
  refine VL.r (.inr ⟨_, _, _, rfl, rfl, rfl⟩) rfl (by decide) (yr_not rfl rfl) ?_
  refine vr (yr_pick_f rfl rfl rfl) ?_
  refine vr (yr_move rfl rfl) ?_
  refine VX.split 17 _ rfl (fun h3 => ?_) (fun h3 => ?_)
  · skip
    replace h3 := bnot_t h3
    refine vn ?_
    refine vn ?_
    refine vn ?_
    refine vr (yr_pick_t (u := .bool true) rfl rfl rfl) ?_
    refine VL.nil (VE.then_wp ?_)
    refine V.condT rfl ?_
    refine V.seq (V.region ?_)
    refine vr (yr_assign (u := .float .f32 0) rfl rfl) ?_
    refine vr (yr_assign (u := .bool false) rfl rfl) ?_
    refine VL.nil (VE.then_wp (V.ret (VE.then_ret ?_)))
    refine ret2 rfl rfl rfl (by nofun) (by nofun) (fun w1 hw => ?_)
    have hs : ridgeOk xss ws gs x r = false := by first | (simp only [ridgeOk, *, Bool.false_and, Bool.and_false, Bool.and_true]; done) | (simp only [ridgeOk, least, *, Bool.false_and, Bool.and_false, Bool.and_true]; done)
    exact ⟨by rw [ridgeD_no hs, hs], hw.below⟩
  replace h3 := bnot_f h3
  refine VL.r (.inr ⟨_, _, _, rfl, rfl, rfl⟩) rfl (by decide) (yr_move rfl rfl) ?_
  refine VL.r (.inr ⟨_, _, _, rfl, rfl, rfl⟩) rfl (by decide) (yr_fcmp (b := 0) rfl (.inr (.inr (.inr (.inr (.inr rfl))))) rfl rfl) ?_
  refine VL.r (.inr ⟨_, _, _, rfl, rfl, rfl⟩) rfl (by decide) (yr_not rfl rfl) ?_
  refine vr (yr_pick_f rfl rfl rfl) ?_
  refine VL.nil (VE.then_wp ?_)
  refine V.cond rfl (fun h5 => ?_) (fun h5 => ?_)
  · skip
    replace h5 := bnot_t h5
    refine V.seq (V.region ?_)
    refine vr (yr_assign (u := .float .f32 0) rfl rfl) ?_
    refine vr (yr_assign (u := .bool false) rfl rfl) ?_
    refine VL.nil (VE.then_wp (V.ret (VE.then_ret ?_)))
    refine ret2 rfl rfl rfl (by nofun) (by nofun) (fun w1 hw => ?_)
    have hs : ridgeOk xss ws gs x r = false := by first | (simp only [ridgeOk, *, Bool.false_and, Bool.and_false, Bool.and_true]; done) | (simp only [ridgeOk, least, *, Bool.false_and, Bool.and_false, Bool.and_true]; done)
    exact ⟨by rw [ridgeD_no hs, hs], hw.below⟩
  replace h5 := bnot_f h5
  refine V.skip (VE.then_wp (V.seq (V.region ?_)))
  refine vq (yq_loadS rfl Try.underlying30 sz30_Ridge rfl zz0 rfl rfl rfl) ?_
  refine vr (yr_move rfl rfl) ?_
  refine vq (yq_callf rfl known56_Ridge (.cons rfl (.cons rfl .nil)) (fun w hw => (c_square zz1 zz7 zz1 zz1 zz1 (by omega) (by assumption)))) ?_
  refine vr (yr_move rfl rfl) ?_
  refine vr (yr_move rfl rfl) ?_
  refine vr (yr_move rfl rfl) ?_
  refine vq (yq_callf rfl known57_Ridge (.cons rfl (.cons rfl .nil)) (fun w hw => (c_dot zz1 zz1 rfl (by omega)))) ?_
  refine vr (yr_float rfl (.inr (.inr (.inl rfl))) rfl rfl) ?_
  refine vr (yr_float rfl (.inl rfl) rfl rfl) ?_
  refine vr (yr_assign rfl rfl) ?_
  refine vr (yr_assign (u := .bool true) rfl rfl) ?_
  refine VL.nil (VE.then_wp (V.ret ?_))
  refine ret2 rfl rfl rfl (by nofun) (by nofun) (fun w1 hw => ?_)
  have hs : ridgeOk xss ws gs x r = true := by first | (simp only [ridgeOk, *, Bool.false_and, Bool.and_false, Bool.and_true]; done) | (simp only [ridgeOk, least, *, Bool.false_and, Bool.and_false, Bool.and_true]; done)
  exact ⟨by rw [ridgeD_yes hs, hs], hw.below⟩
end Go.Proofs.Ytgeflnjjppgooaa.Q

namespace Go.Proofs.Ytgeflnjjppgooaa
open Go.RowKit
/-- The first i numbers of Y added to X's. -/
def addL (X Y : List Nat) : Nat → List Nat
  | 0 => X
  | i + 1 => (addL X Y i).set i (fop .add .f32 ((addL X Y i).getD i 0) (Y.getD i 0))
theorem addL_length (X Y : List Nat) : ∀ i, (addL X Y i).length = X.length
  | 0 => rfl
  | i + 1 => by simp [addL, addL_length X Y i]
def Cn (X : List Nat) : Prop := ∀ y ∈ X, Can .f32 y
theorem Cn.set {X : List Nat} (h : Cn X) (i : Nat) {v : Nat} (hv : Can .f32 v) : Cn (X.set i v) := fun y hy => by
  rcases List.mem_or_eq_of_mem_set hy with h1 | rfl
  · exact h y h1
  · exact hv
theorem Cn.addL {X : List Nat} (h : Cn X) (Y : List Nat) : ∀ i, Cn (addL X Y i)
  | 0 => h
  | i + 1 => (Cn.addL h Y i).set _ (can_fop _ _ _ _)
theorem cn_zeros (n : Nat) : Cn (List.replicate n 0) := fun y hy => by rw [List.eq_of_mem_replicate hy]; exact can_f0
def pcA (xss : List (List Nat)) (gs : List Nat) (n k : Nat) : List Nat := blockA xss gs (k * 8) (min 8 (xss.length - k * 8)) n
def pcB (xss : List (List Nat)) (ws gs : List Nat) (n k : Nat) : List Nat := blockB xss ws gs (k * 8) (min 8 (xss.length - k * 8)) n
def nmA (xss : List (List Nat)) (gs : List Nat) (n : Nat) : Nat → List Nat
  | 0 => List.replicate (n * n) 0
  | k + 1 => addL (nmA xss gs n k) (pcA xss gs n k) (n * n)
def nmB (xss : List (List Nat)) (ws gs : List Nat) (n : Nat) : Nat → List Nat
  | 0 => List.replicate n 0
  | k + 1 => addL (nmB xss ws gs n k) (pcB xss ws gs n k) n
theorem nmA_length (xss : List (List Nat)) (gs : List Nat) (n : Nat) : ∀ k, (nmA xss gs n k).length = n * n
  | 0 => by simp [nmA]
  | k + 1 => by rw [nmA, addL_length, nmA_length xss gs n k]
theorem nmB_length (xss : List (List Nat)) (ws gs : List Nat) (n : Nat) : ∀ k, (nmB xss ws gs n k).length = n
  | 0 => by simp [nmB]
  | k + 1 => by rw [nmB, addL_length, nmB_length xss ws gs n k]
theorem nmA_cn (xss : List (List Nat)) (gs : List Nat) (n : Nat) : ∀ k, Cn (nmA xss gs n k)
  | 0 => cn_zeros _
  | k + 1 => (nmA_cn xss gs n k).addL _ _
theorem nmB_cn (xss : List (List Nat)) (ws gs : List Nat) (n : Nat) : ∀ k, Cn (nmB xss ws gs n k)
  | 0 => cn_zeros _
  | k + 1 => (nmB_cn xss ws gs n k).addL _ _
/-- x on the first i places of the diagonal. -/
def dgA (X : List Nat) (x n : Nat) : Nat → List Nat
  | 0 => X
  | i + 1 => (dgA X x n i).set (i * n + i) (fop .add .f32 ((dgA X x n i).getD (i * n + i) 0) x)
theorem dgA_length (X : List Nat) (x n : Nat) : ∀ i, (dgA X x n i).length = X.length
  | 0 => rfl
  | i + 1 => by simp [dgA, dgA_length X x n i]
theorem Cn.dgA {X : List Nat} (h : Cn X) (x n : Nat) : ∀ i, Cn (dgA X x n i)
  | 0 => h
  | i + 1 => (Cn.dgA h x n i).set _ (can_fop _ _ _ _)
def normA (xss : List (List Nat)) (gs : List Nat) (x : Nat) : List Nat := dgA (nmA xss gs (xss.getD 0 []).length (blocksN xss.length)) x (xss.getD 0 []).length (xss.getD 0 []).length
def normB (xss : List (List Nat)) (ws gs : List Nat) : List Nat := nmB xss ws gs (xss.getD 0 []).length (blocksN xss.length)
theorem normA_length (xss : List (List Nat)) (gs : List Nat) (x : Nat) : (normA xss gs x).length = (xss.getD 0 []).length * (xss.getD 0 []).length := by rw [normA, dgA_length, nmA_length]
theorem normB_length (xss : List (List Nat)) (ws gs : List Nat) : (normB xss ws gs).length = (xss.getD 0 []).length := by rw [normB, nmB_length]
noncomputable def normOk (xss : List (List Nat)) (ws gs : List Nat) (x : Nat) : Bool := validD xss ws gs && least x
noncomputable def normAD (xss : List (List Nat)) (ws gs : List Nat) (x : Nat) : List Nat := if normOk xss ws gs x then normA xss gs x else []
noncomputable def normBD (xss : List (List Nat)) (ws gs : List Nat) (x : Nat) : List Nat := if normOk xss ws gs x then normB xss ws gs else []
noncomputable def shOk (xss : List (List Nat)) (ws gs : List Nat) (x : Nat) (n : Int) : Bool := normOk xss ws gs x && decide (1 ≤ n ∧ n ≤ 8)
noncomputable def shAD (xss : List (List Nat)) (ws gs : List Nat) (x : Nat) (n : Int) : List Nat := if shOk xss ws gs x n then normA xss gs x else []
noncomputable def shBD (xss : List (List Nat)) (ws gs : List Nat) (x : Nat) (n : Int) : List Nat := if shOk xss ws gs x n then normB xss ws gs else []
section
variable {xss : List (List Nat)} {ws gs : List Nat} {x : Nat} {n : Int}
theorem normAD_yes (h : normOk xss ws gs x = true) : normAD xss ws gs x = normA xss gs x := by simp [normAD, h]
theorem normBD_yes (h : normOk xss ws gs x = true) : normBD xss ws gs x = normB xss ws gs := by simp [normBD, h]
theorem shAD_yes (h : shOk xss ws gs x n = true) : shAD xss ws gs x n = normA xss gs x := by simp [shAD, h]
theorem shBD_yes (h : shOk xss ws gs x n = true) : shBD xss ws gs x n = normB xss ws gs := by simp [shBD, h]
theorem shAD_no (h : shOk xss ws gs x n = false) : shAD xss ws gs x n = [] := by simp [shAD, h]
theorem shBD_no (h : shOk xss ws gs x n = false) : shBD xss ws gs x n = [] := by simp [shBD, h]
/-- The count of workers does not tell. -/
theorem sh_norm (h : decide (1 ≤ n ∧ n ≤ 8) = true) : shOk xss ws gs x n = normOk xss ws gs x ∧ shAD xss ws gs x n = normAD xss ws gs x ∧ shBD xss ws gs x n = normBD xss ws gs x := by
  have e : shOk xss ws gs x n = normOk xss ws gs x := by rw [shOk, h, Bool.and_true]
  exact ⟨e, by rw [shAD, normAD, e], by rw [shBD, normBD, e]⟩
theorem cn_nil : Cn [] := fun y hy => by cases hy
theorem can_shAD (xss : List (List Nat)) (ws gs : List Nat) (x : Nat) (n : Int) : ∀ y ∈ shAD xss ws gs x n, Can .f32 y := by
  show Cn _
  unfold shAD; split
  · exact (nmA_cn _ _ _ _).dgA _ _ _
  · exact cn_nil
theorem can_shBD (xss : List (List Nat)) (ws gs : List Nat) (x : Nat) (n : Int) : ∀ y ∈ shBD xss ws gs x n, Can .f32 y := by
  show Cn _
  unfold shBD; split
  · exact nmB_cn _ _ _ _ _
  · exact cn_nil
theorem ok_valid (h : normOk xss ws gs x = true) : ValidP xss ws gs := valid_is (Bool.and_eq_true_iff.1 h).1
theorem sh_ok (h : shOk xss ws gs x n = true) : normOk xss ws gs x = true := (Bool.and_eq_true_iff.1 h).1
theorem one_ok : decide ((1 : Int) ≤ 1 ∧ (1 : Int) ≤ 8) = true := by decide
theorem can_normAD (xss : List (List Nat)) (ws gs : List Nat) (x : Nat) : ∀ y ∈ normAD xss ws gs x, Can .f32 y := by
  rw [← (sh_norm (xss := xss) (ws := ws) (gs := gs) (x := x) one_ok).2.1]; exact can_shAD _ _ _ _ _
theorem can_normBD (xss : List (List Nat)) (ws gs : List Nat) (x : Nat) : ∀ y ∈ normBD xss ws gs x, Can .f32 y := by
  rw [← (sh_norm (xss := xss) (ws := ws) (gs := gs) (x := x) one_ok).2.2]; exact can_shBD _ _ _ _ _
end
end Go.Proofs.Ytgeflnjjppgooaa

namespace Go.Proofs.Ytgeflnjjppgooaa.Q
open Go.RowKit
set_option linter.unusedVariables false
set_option linter.unusedSimpArgs false
set_option maxRecDepth 20000
set_option maxHeartbeats 800000
attribute [local irreducible] wqList Wq
theorem sz22_Normal : (Try.prog.info? 22).map (·.size) = some 1 := by kernel_rfl
theorem fb22_Normal : flatB Try.prog 22 = true := by kernel_rfl
theorem sz23_Normal : (Try.prog.info? 23).map (·.size) = some 1 := by kernel_rfl
theorem fb23_Normal : flatB Try.prog 23 = true := by kernel_rfl
theorem elt26_Normal : Elt Try.prog 26 [Value.float .f32 0] 4 := Elt.mk' (by kernel_rfl) (by decide)
theorem known70_Normal : Known Try.prog 70 := Known.mk' Try.func70 (by kernel_rfl)
theorem known71_Normal : Known Try.prog 71 := Known.mk' Try.func71 (by kernel_rfl)
theorem mixed_Normal : Try.prog.follows .mixedOrders = true := by kernel_rfl
theorem sz26_Normal : (Try.prog.info? 26).map (·.size) = some 1 := by kernel_rfl
theorem fb26_Normal : flatB Try.prog 26 = true := by kernel_rfl
theorem c_l07Normal [PhC] {w : World} {q : Option Addr} {a a1 a2 : Option Addr} {c c1 c2 : Nat} {f : Nat → Option Addr × Nat} {xss : List (List Nat)} {ws gs : List Nat} {x : Nat} (hQ : Cl w q [.slice a xss.length c, .slice a1 ws.length c1, .slice a2 gs.length c2]) (hA : Cl w a (hd f xss)) (hR : Rws w f xss) (hW : Cl w a1 (fl ws)) (hG : Cl w a2 (fl gs)) (hsz : bulk xss + ws.length + gs.length ≤ 1050000) (hval : ValidP xss ws gs) : New Try.prog 35 [.pointer (some (adr q 0)), .float .f32 x] w (fun p : Nat × Nat => .tuple #[.slice (some ⟨p.1, 0, none⟩) ((xss.getD 0 []).length * (xss.getD 0 []).length) ((xss.getD 0 []).length * (xss.getD 0 []).length), .slice (some ⟨p.2, 0, none⟩) (xss.getD 0 []).length (xss.getD 0 []).length]) (fun p => [⟨some ⟨p.2, 0, none⟩, fl (normB xss ws gs), (xss.getD 0 []).length * 1, 26⟩, ⟨some ⟨p.1, 0, none⟩, fl (normA xss gs x), ((xss.getD 0 []).length * (xss.getD 0 []).length) * 1, 26⟩]) := by
  refine New.enter Try.func35 rfl Try.ntmps35 (Nat.le_of_ble_eq_true rfl) ?_
  have hval2 := hval
  have hr : ∀ i, i < xss.length → (xss.getD i []).length ≤ 1050000 := fun i hi => by have := bulk_row hi; omega
  have hxl : xss.length ≤ bulk xss := by unfold bulk; omega
  obtain ⟨v1, v2, v3, v4, v5, v6, v7, v8⟩ := hval
  have hN : ∀ i, i < xss.length → (xss.getD i []).length = (xss.getD 0 []).length := fun i hi => (v6 i hi).1
  have hnn : (xss.getD 0 []).length * (xss.getD 0 []).length ≤ 64 := Nat.mul_le_mul v8 v8
  have hix : ∀ {j k : Nat}, j < (xss.getD 0 []).length → k < (xss.getD 0 []).length → j * (xss.getD 0 []).length + k < (xss.getD 0 []).length * (xss.getD 0 []).length := idx_lt
  have hbn : blocksN xss.length * 8 ≤ xss.length + 7 := by unfold blocksN; omega
  have hlA : ∀ k, (nmA xss gs (xss.getD 0 []).length k).length = (xss.getD 0 []).length * (xss.getD 0 []).length := nmA_length _ _ _
  have hlB : ∀ k, (nmB xss ws gs (xss.getD 0 []).length k).length = (xss.getD 0 []).length := nmB_length _ _ _ _
  refine V.seq (V.region ?_)
  refine vr (yr_assign (u := .slice none 0 0) rfl rfl) ?_
  refine vr (yr_assign (u := .slice none 0 0) rfl rfl) ?_
  refine VL.nil (VE.then_wp (V.seq (V.region ?_)))
  refine vr (yr_move rfl rfl) ?_
  refine vr (yr_nilCheck rfl rfl) ?_
  refine vr (yr_fieldAddr rfl Try.underlying30 rfl rfl sz22_Normal (by decide) rfl) ?_
  refine vq (yq_load rfl fb22_Normal rfl zz0 rfl) ?_
  refine vq (yq_idx (k := 0) rfl Try.underlying22 sz23_Normal rfl rfl zz0 zz3 zz12 zz9) ?_
  refine vq (yq_loadH rfl fb23_Normal rfl zz0 zz9) ?_
  refine vr (yr_len rfl Try.underlying23 rfl) ?_
  refine vr (yr_assign rfl rfl) ?_
  refine VL.nil (VE.then_wp (V.seq (V.region ?_)))
  refine vr (yr_move rfl rfl) ?_
  refine vr (yr_move rfl rfl) ?_
  refine vr (yr_mulN (xss.getD 0 []).length (xss.getD 0 []).length rfl rfl rfl (by omega) (by omega) (Nat.le_trans (mul_small (by omega) (by omega)) (by decide))) ?_
  refine VL.new1 (.inl rfl) rfl (by decide) (yn_makeSlicez 1 rfl rfl Try.underlying23 elt26_Normal rfl rfl rfl (by omega) (by omega)) ?_
  intro b25
  refine vr (yr_assign rfl rfl) ?_
  refine VL.nil (VE.then_wp (V.seq (V.region ?_)))
  refine vr (yr_move rfl rfl) ?_
  refine VL.new1 (.inl rfl) rfl (by decide) (yn_makeSlicez 1 rfl rfl Try.underlying23 elt26_Normal rfl rfl rfl (by omega) (by omega)) ?_
  intro b27
  refine vr (yr_assign rfl rfl) ?_
  refine VL.nil (VE.then_wp (V.seq (V.seq (V.region ?_))))
  refine vr (yr_assign (u := .int .i64 0) rfl rfl) ?_
  refine VL.nil (VE.then_wp (V.block ?_))
  refine V.loopc (G := Nat) [(0, _), (1, _), (6, _), (7, _), (8, _)] (fun (k : Nat) => k ≤ blocksN xss.length) (fun (k : Nat) => [⟨some ⟨b27, 0, none⟩, fl (nmB xss ws gs (xss.getD 0 []).length k), (xss.getD 0 []).length * 1, 26⟩, ⟨some ⟨b25, 0, none⟩, fl (nmA xss gs (xss.getD 0 []).length k), ((xss.getD 0 []).length * (xss.getD 0 []).length) * 1, 26⟩]) (fun (k : Nat) => [(9, .int .i64 (k : Int))]) (fun (k : Nat) => blocksN xss.length - k) 0 (.cons rfl (.cons rfl (.cons rfl (.cons rfl (.cons rfl .nil))))) (.cons rfl .nil) ?_ ?_ ?_
  · exact (fun w hw => by rw [fl_zeros, fl_zeros] at hw; exact hw)
  · exact (by omega)
  rintro k hk
  show V _ _ _ [⟨some ⟨b27, 0, none⟩, fl (nmB xss ws gs (xss.getD 0 []).length k), (xss.getD 0 []).length * 1, 26⟩, ⟨some ⟨b25, 0, none⟩, fl (nmA xss gs (xss.getD 0 []).length k), ((xss.getD 0 []).length * (xss.getD 0 []).length) * 1, 26⟩] ([(9, .int .i64 (k : Int))] ++ [(0, _), (1, _), (6, _), (7, _), (8, _)]) _ _
  refine V.seq (V.seq (V.region ?_))
  refine vr (yr_move rfl rfl) ?_
  refine vr (yr_move rfl rfl) ?_
  refine vq (yq_callf rfl known70_Normal (.cons rfl .nil) (fun w hw => (c_l07Blocks zz1 (by omega)))) ?_
  refine vr (yr_icmp rfl (.inr (.inr (.inl rfl))) rfl rfl) ?_
  refine VL.nil (VE.then_wp ?_)
  refine V.cond rfl (fun h1 => ?_) (fun h1 => ?_)
  · skip
    replace h1 := ic_lss h1
    refine V.skip (VE.then_wp (V.seq (V.block (V.seq (V.region ?_)))))
    refine vr (yr_move rfl rfl) ?_
    refine vr (yr_move rfl rfl) ?_
    refine VL.new (.inl rfl) rfl (by decide) (yn_callf rfl known71_Normal (.cons rfl (.cons rfl .nil)) (fun w hw => (c_l07At (bi := (k : Int)) zz1 zz1 zz7 zz1 zz1 (by omega) (by assumption) (by omega) (by omega)))) ?_
    rintro ⟨b37, e37⟩
    refine vr (yr_move rfl rfl) ?_
    refine vr (yr_extract rfl rfl rfl (by nofun)) ?_
    refine vr (yr_extract rfl rfl rfl (by nofun)) ?_
    refine vr (yr_assign rfl rfl) ?_
    refine vr (yr_assign rfl rfl) ?_
    refine VL.nil (VE.then_wp (V.seq (V.seq (V.region ?_))))
    refine vr (yr_move rfl rfl) ?_
    refine vr (yr_len rfl Try.underlying23 rfl) ?_
    refine vr (yr_move (u := .int .i64 0) rfl rfl) ?_
    refine VL.nil (VE.then_wp (V.block ?_))
    refine V.loopc (G := Nat) [(0, _), (1, _), (6, _), (7, _), (8, _), (9, _), (10, _), (11, _), (41, _)] (fun (i : Nat) => i ≤ (xss.getD 0 []).length * (xss.getD 0 []).length) (fun (i : Nat) => [⟨some ⟨e37, 0, none⟩, fl (blockB xss ws gs (Int.toNat (k : Int) * 8) (min 8 (xss.length - Int.toNat (k : Int) * 8)) (xss.getD 0 []).length), (xss.getD 0 []).length * 1, 26⟩, ⟨some ⟨b37, 0, none⟩, fl (blockA xss gs (Int.toNat (k : Int) * 8) (min 8 (xss.length - Int.toNat (k : Int) * 8)) (xss.getD 0 []).length), ((xss.getD 0 []).length * (xss.getD 0 []).length) * 1, 26⟩, ⟨some ⟨b27, 0, none⟩, fl (nmB xss ws gs (xss.getD 0 []).length k), (xss.getD 0 []).length * 1, 26⟩, ⟨some ⟨b25, 0, none⟩, fl (addL (nmA xss gs (xss.getD 0 []).length k) (pcA xss gs (xss.getD 0 []).length k) i), ((xss.getD 0 []).length * (xss.getD 0 []).length) * 1, 26⟩]) (fun (i : Nat) => [(42, .int .i64 (i : Int))]) (fun (i : Nat) => (xss.getD 0 []).length * (xss.getD 0 []).length - i) 0 (.cons rfl (.cons rfl (.cons rfl (.cons rfl (.cons rfl (.cons rfl (.cons rfl (.cons rfl (.cons rfl .nil))))))))) (.cons rfl .nil) ?_ ?_ ?_
    · exact (fun w hw => hw)
    · exact (by omega)
    rintro i hi
    show V _ _ _ [⟨some ⟨e37, 0, none⟩, fl (blockB xss ws gs (Int.toNat (k : Int) * 8) (min 8 (xss.length - Int.toNat (k : Int) * 8)) (xss.getD 0 []).length), (xss.getD 0 []).length * 1, 26⟩, ⟨some ⟨b37, 0, none⟩, fl (blockA xss gs (Int.toNat (k : Int) * 8) (min 8 (xss.length - Int.toNat (k : Int) * 8)) (xss.getD 0 []).length), ((xss.getD 0 []).length * (xss.getD 0 []).length) * 1, 26⟩, ⟨some ⟨b27, 0, none⟩, fl (nmB xss ws gs (xss.getD 0 []).length k), (xss.getD 0 []).length * 1, 26⟩, ⟨some ⟨b25, 0, none⟩, fl (addL (nmA xss gs (xss.getD 0 []).length k) (pcA xss gs (xss.getD 0 []).length k) i), ((xss.getD 0 []).length * (xss.getD 0 []).length) * 1, 26⟩] ([(42, .int .i64 (i : Int))] ++ [(0, _), (1, _), (6, _), (7, _), (8, _), (9, _), (10, _), (11, _), (41, _)]) _ _
    refine V.seq (V.region ?_)
    refine vr (yr_icmp rfl (.inr (.inr (.inl rfl))) rfl rfl) ?_
    refine VL.nil (VE.then_wp (V.seq ?_))
    refine V.cond rfl (fun h2 => ?_) (fun h2 => ?_)
    · skip
      replace h2 := ic_lss h2
      refine V.skip (VE.then_wp (V.seq (V.block (V.seq (V.region ?_)))))
      refine vr (yr_move rfl rfl) ?_
      refine vr (yr_assign rfl rfl) ?_
      refine VL.nil (VE.then_wp ?_)
      refine V.draw [(0, 0), (1, 0), (2, 0), (3, 0), (4, 0), (5, 0), (6, 0), (7, 0), (8, 0), (9, 0), (10, 3)] mixed_Normal (by kernel_rfl) (by intro j o hj; simp at hj) ?_
      refine sr rfl (yr_move rfl rfl) ?_
      refine sr rfl (yr_move rfl rfl) ?_
      refine sq rfl (yq_idx (k := i) rfl Try.underlying23 sz26_Normal rfl rfl zz0 zz3 zz12 zz9) ?_
      refine sq rfl (yq_loadF rfl fb26_Normal rfl zz0 zz9) ?_
      refine sr rfl (yr_move rfl rfl) ?_
      refine sr rfl (yr_move rfl rfl) ?_
      refine sq rfl (yq_idx (k := i) rfl Try.underlying23 sz26_Normal rfl rfl zz0 zz3 zz12 zz9) ?_
      refine sq rfl (yq_loadF rfl fb26_Normal rfl zz0 zz9) ?_
      refine sr rfl (yr_float rfl (.inl rfl) rfl rfl) ?_
      refine sq rfl (yq_idx (k := i) rfl Try.underlying23 sz26_Normal rfl rfl zz0 zz3 zz12 zz9) ?_
      refine SW.s rfl (.inl rfl) rfl (yc_store rfl sz26_Normal rfl rfl zz8 (.inl ⟨rfl, rfl⟩) rfl (by rw [fl_length]; first | (rw [addL_length, hlA]; omega) | (rw [addL_length, hlB]; omega) | (rw [dgA_length, hlA]; omega)) (by decide) (fl_set _ _ _)) ?_
      rintro ⟨⟩
      refine SW.done ?_
      refine VE.block_normal (VE.then_wp (V.region ?_))
      refine vr (yr_int rfl rfl rfl (.inl ⟨rfl, wrap_in (by omega)⟩)) ?_
      refine vr (yr_move rfl rfl) ?_
      refine VL.nil ?_
      refine VE.round (i + 1) ?_ ?_ ?_ ?_ ?_
      · exact (.cons rfl .nil)
      · exact (.cons rfl (.cons rfl (.cons rfl (.cons rfl (.cons rfl (.cons rfl (.cons rfl (.cons rfl (.cons rfl .nil)))))))))
      · exact (fun w hw => hw)
      · omega
      · (try dsimp only); omega
    replace h2 := ic_lss' h2
    refine V.exit ?_
    refine VE.then_exit (VE.then_exit (VE.block_here (VE.then_wp (V.seq (V.region ?_)))))
    refine vr (yr_move rfl rfl) ?_
    refine vr (yr_len rfl Try.underlying23 rfl) ?_
    refine vr (yr_move (u := .int .i64 0) rfl rfl) ?_
    refine VL.nil (VE.then_wp (V.block ?_))
    refine V.loopc (G := Nat) [(0, _), (1, _), (6, _), (7, _), (8, _), (9, _), (11, _), (57, _)] (fun (i2 : Nat) => i2 ≤ (xss.getD 0 []).length) (fun (i2 : Nat) => [⟨some ⟨e37, 0, none⟩, fl (blockB xss ws gs (Int.toNat (k : Int) * 8) (min 8 (xss.length - Int.toNat (k : Int) * 8)) (xss.getD 0 []).length), (xss.getD 0 []).length * 1, 26⟩, ⟨some ⟨b37, 0, none⟩, fl (blockA xss gs (Int.toNat (k : Int) * 8) (min 8 (xss.length - Int.toNat (k : Int) * 8)) (xss.getD 0 []).length), ((xss.getD 0 []).length * (xss.getD 0 []).length) * 1, 26⟩, ⟨some ⟨b27, 0, none⟩, fl (addL (nmB xss ws gs (xss.getD 0 []).length k) (pcB xss ws gs (xss.getD 0 []).length k) i2), (xss.getD 0 []).length * 1, 26⟩, ⟨some ⟨b25, 0, none⟩, fl (nmA xss gs (xss.getD 0 []).length (k + 1)), ((xss.getD 0 []).length * (xss.getD 0 []).length) * 1, 26⟩]) (fun (i2 : Nat) => [(58, .int .i64 (i2 : Int))]) (fun (i2 : Nat) => (xss.getD 0 []).length - i2) 0 (.cons rfl (.cons rfl (.cons rfl (.cons rfl (.cons rfl (.cons rfl (.cons rfl (.cons rfl .nil)))))))) (.cons rfl .nil) ?_ ?_ ?_
    · exact (fun w hw => by rw [show i = (xss.getD 0 []).length * (xss.getD 0 []).length by omega] at hw; exact hw)
    · exact (by omega)
    rintro i2 hi2
    show V _ _ _ [⟨some ⟨e37, 0, none⟩, fl (blockB xss ws gs (Int.toNat (k : Int) * 8) (min 8 (xss.length - Int.toNat (k : Int) * 8)) (xss.getD 0 []).length), (xss.getD 0 []).length * 1, 26⟩, ⟨some ⟨b37, 0, none⟩, fl (blockA xss gs (Int.toNat (k : Int) * 8) (min 8 (xss.length - Int.toNat (k : Int) * 8)) (xss.getD 0 []).length), ((xss.getD 0 []).length * (xss.getD 0 []).length) * 1, 26⟩, ⟨some ⟨b27, 0, none⟩, fl (addL (nmB xss ws gs (xss.getD 0 []).length k) (pcB xss ws gs (xss.getD 0 []).length k) i2), (xss.getD 0 []).length * 1, 26⟩, ⟨some ⟨b25, 0, none⟩, fl (nmA xss gs (xss.getD 0 []).length (k + 1)), ((xss.getD 0 []).length * (xss.getD 0 []).length) * 1, 26⟩] ([(58, .int .i64 (i2 : Int))] ++ [(0, _), (1, _), (6, _), (7, _), (8, _), (9, _), (11, _), (57, _)]) _ _
    refine V.seq (V.region ?_)
    refine vr (yr_icmp rfl (.inr (.inr (.inl rfl))) rfl rfl) ?_
    refine VL.nil (VE.then_wp (V.seq ?_))
    refine V.cond rfl (fun h3 => ?_) (fun h3 => ?_)
    · skip
      replace h3 := ic_lss h3
      refine V.skip (VE.then_wp (V.seq (V.block (V.seq (V.region ?_)))))
      refine vr (yr_move rfl rfl) ?_
      refine vr (yr_assign rfl rfl) ?_
      refine VL.nil (VE.then_wp ?_)
      refine V.draw [(0, 0), (1, 0), (2, 0), (3, 0), (4, 0), (5, 0), (6, 0), (7, 0), (8, 0), (9, 0), (10, 3)] mixed_Normal (by kernel_rfl) (by intro j o hj; simp at hj) ?_
      refine sr rfl (yr_move rfl rfl) ?_
      refine sr rfl (yr_move rfl rfl) ?_
      refine sq rfl (yq_idx (k := i2) rfl Try.underlying23 sz26_Normal rfl rfl zz0 zz3 zz12 zz9) ?_
      refine sq rfl (yq_loadF rfl fb26_Normal rfl zz0 zz9) ?_
      refine sr rfl (yr_move rfl rfl) ?_
      refine sr rfl (yr_move rfl rfl) ?_
      refine sq rfl (yq_idx (k := i2) rfl Try.underlying23 sz26_Normal rfl rfl zz0 zz3 zz12 zz9) ?_
      refine sq rfl (yq_loadF rfl fb26_Normal rfl zz0 zz9) ?_
      refine sr rfl (yr_float rfl (.inl rfl) rfl rfl) ?_
      refine sq rfl (yq_idx (k := i2) rfl Try.underlying23 sz26_Normal rfl rfl zz0 zz3 zz12 zz9) ?_
      refine SW.s rfl (.inl rfl) rfl (yc_store rfl sz26_Normal rfl rfl zz8 (.inl ⟨rfl, rfl⟩) rfl (by rw [fl_length]; first | (rw [addL_length, hlA]; omega) | (rw [addL_length, hlB]; omega) | (rw [dgA_length, hlA]; omega)) (by decide) (fl_set _ _ _)) ?_
      rintro ⟨⟩
      refine SW.done ?_
      refine VE.block_normal (VE.then_wp (V.region ?_))
      refine vr (yr_int rfl rfl rfl (.inl ⟨rfl, wrap_in (by omega)⟩)) ?_
      refine vr (yr_move rfl rfl) ?_
      refine VL.nil ?_
      refine VE.round (i2 + 1) ?_ ?_ ?_ ?_ ?_
      · exact (.cons rfl .nil)
      · exact (.cons rfl (.cons rfl (.cons rfl (.cons rfl (.cons rfl (.cons rfl (.cons rfl (.cons rfl .nil))))))))
      · exact (fun w hw => hw)
      · omega
      · (try dsimp only); omega
    replace h3 := ic_lss' h3
    refine V.exit ?_
    refine VE.then_exit (VE.then_exit (VE.block_here (VE.block_normal (VE.then_wp (V.region ?_)))))
    refine vr (yr_move rfl rfl) ?_
    refine vr (yr_int rfl rfl rfl (.inl ⟨rfl, wrap_in (by omega)⟩)) ?_
    refine vr (yr_assign rfl rfl) ?_
    refine VL.nil ?_
    refine VE.round (k + 1) ?_ ?_ ?_ ?_ ?_
    · exact (.cons rfl .nil)
    · exact (.cons rfl (.cons rfl (.cons rfl (.cons rfl (.cons rfl .nil)))))
    · exact (fun w hw => by rw [show i2 = (xss.getD 0 []).length by omega] at hw; exact hw.sub ((List.Sublist.refl _).cons _ |>.cons _))
    · omega
    · (try dsimp only); omega
  replace h1 := ic_lss' h1
  refine V.exit ?_
  refine VE.then_exit (VE.then_exit (VE.block_here (VE.then_wp (V.seq (V.seq (V.region ?_))))))
  refine vr (yr_assign (u := .int .i64 0) rfl rfl) ?_
  refine VL.nil (VE.then_wp (V.block ?_))
  refine V.loopc (G := Nat) [(1, _), (6, _), (7, _), (8, _)] (fun (j : Nat) => j ≤ (xss.getD 0 []).length) (fun (j : Nat) => [⟨some ⟨b27, 0, none⟩, fl (nmB xss ws gs (xss.getD 0 []).length (blocksN xss.length)), (xss.getD 0 []).length * 1, 26⟩, ⟨some ⟨b25, 0, none⟩, fl (dgA (nmA xss gs (xss.getD 0 []).length (blocksN xss.length)) x (xss.getD 0 []).length j), ((xss.getD 0 []).length * (xss.getD 0 []).length) * 1, 26⟩]) (fun (j : Nat) => [(14, .int .i64 (j : Int))]) (fun (j : Nat) => (xss.getD 0 []).length - j) 0 (.cons rfl (.cons rfl (.cons rfl (.cons rfl .nil)))) (.cons rfl .nil) ?_ ?_ ?_
  · exact (fun w hw => by rw [show k = blocksN xss.length by omega] at hw; exact hw)
  · exact (by omega)
  rintro j hj
  show V _ _ _ [⟨some ⟨b27, 0, none⟩, fl (nmB xss ws gs (xss.getD 0 []).length (blocksN xss.length)), (xss.getD 0 []).length * 1, 26⟩, ⟨some ⟨b25, 0, none⟩, fl (dgA (nmA xss gs (xss.getD 0 []).length (blocksN xss.length)) x (xss.getD 0 []).length j), ((xss.getD 0 []).length * (xss.getD 0 []).length) * 1, 26⟩] ([(14, .int .i64 (j : Int))] ++ [(1, _), (6, _), (7, _), (8, _)]) _ _
  have hjj := fun (h : j < (xss.getD 0 []).length) => hix h h
  refine V.seq (V.seq (V.region ?_))
  refine vr (yr_move rfl rfl) ?_
  refine vr (yr_move rfl rfl) ?_
  refine vr (yr_icmp rfl (.inr (.inr (.inl rfl))) rfl rfl) ?_
  refine VL.nil (VE.then_wp ?_)
  refine V.cond rfl (fun h4 => ?_) (fun h4 => ?_)
  · skip
    replace h4 := ic_lss h4
    refine V.skip (VE.then_wp (V.seq (V.block (V.region ?_))))
    refine vr (yr_move rfl rfl) ?_
    refine vr (yr_move rfl rfl) ?_
    refine vr (yr_move rfl rfl) ?_
    refine vr (yr_mulN j (xss.getD 0 []).length rfl rfl rfl (by omega) (by omega) (Nat.le_trans (mul_small (by omega) (by omega)) (by decide))) ?_
    refine vr (yr_move rfl rfl) ?_
    refine vr (yr_int rfl rfl rfl (.inl ⟨rfl, wrap_in (by omega)⟩)) ?_
    refine vq (yq_idx (k := ((j * (xss.getD 0 []).length) + j)) rfl Try.underlying23 sz26_Normal rfl rfl zz0 zz3 zz12 zz9) ?_
    refine vq (yq_loadF rfl fb26_Normal rfl zz0 zz9) ?_
    refine vr (yr_move rfl rfl) ?_
    refine vr (yr_float rfl (.inl rfl) rfl rfl) ?_
    refine vq (yq_idx (k := ((j * (xss.getD 0 []).length) + j)) rfl Try.underlying23 sz26_Normal rfl rfl zz0 zz3 zz12 zz9) ?_
    refine VL.s (.inl rfl) rfl (yc_store rfl sz26_Normal rfl rfl zz8 (.inl ⟨rfl, rfl⟩) rfl (by rw [fl_length]; first | (rw [addL_length, hlA]; omega) | (rw [addL_length, hlB]; omega) | (rw [dgA_length, hlA]; omega)) (by decide) (fl_set _ _ _)) ?_
    rintro ⟨⟩
    refine VL.nil (VE.block_normal (VE.then_wp (V.region ?_)))
    refine vr (yr_move rfl rfl) ?_
    refine vr (yr_int rfl rfl rfl (.inl ⟨rfl, wrap_in (by omega)⟩)) ?_
    refine vr (yr_assign rfl rfl) ?_
    refine VL.nil ?_
    refine VE.round (j + 1) ?_ ?_ ?_ ?_ ?_
    · exact (.cons rfl .nil)
    · exact (.cons rfl (.cons rfl (.cons rfl (.cons rfl .nil))))
    · exact (fun w hw => hw)
    · omega
    · (try dsimp only); omega
  replace h4 := ic_lss' h4
  refine V.exit ?_
  refine VE.then_exit (VE.then_exit (VE.block_here (VE.then_wp (V.seq (V.region ?_)))))
  refine vr (yr_move rfl rfl) ?_
  refine vr (yr_move rfl rfl) ?_
  refine vr (yr_assign rfl rfl) ?_
  refine vr (yr_assign rfl rfl) ?_
  refine VL.nil (VE.then_wp (V.ret ?_))
  refine ret2 rfl rfl rfl (by nofun) (by nofun) (fun w1 hw => ?_)
  obtain rfl : j = (xss.getD 0 []).length := by omega
  exact ⟨(b25, b27), rfl, hw.outs (List.Sublist.refl _)⟩
theorem c_addLists [PhC] {w0 : World} {a p : Option Addr} {c d cap : Nat} {X Y : List Nat} {m : Nat} (hY : Cl w0 p (fl Y)) (hX : X.length = m) (hYX : Y.length ≤ m) (hn : m ≤ 1050000) : Mut Try.prog 49 [.slice a m c, .slice p Y.length d] w0 [⟨a, fl X, cap, 26⟩] (fun _ : Unit => .tuple #[]) (fun _ => [⟨a, fl (addL X Y Y.length), cap, 26⟩]) := by
  refine Mut.enter Try.func49 rfl Try.ntmps49 (Nat.le_of_ble_eq_true rfl) ?_
  intro F
  refine V.seq (V.region ?_)
  refine vr (yr_move rfl rfl) ?_
  refine vr (yr_len rfl Try.underlying23 rfl) ?_
  refine vr (yr_move (u := .int .i64 0) rfl rfl) ?_
  refine VL.nil (VE.then_wp (V.block ?_))
  refine V.loopc (G := Nat) [(0, _), (6, _), (7, _)] (fun (k : Nat) => k ≤ Y.length) (fun (k : Nat) => (F ++ [⟨a, fl (addL X Y k), cap, 26⟩])) (fun (k : Nat) => [(8, .int .i64 (k : Int))]) (fun (k : Nat) => Y.length - k) 0 (.cons rfl (.cons rfl (.cons rfl .nil))) (.cons rfl .nil) ?_ ?_ ?_
  · exact (fun w hw => hw)
  · exact (by omega)
  rintro k hk
  show V _ _ _ (F ++ [⟨a, fl (addL X Y k), cap, 26⟩]) ([(8, .int .i64 (k : Int))] ++ [(0, _), (6, _), (7, _)]) _ _
  refine V.seq (V.region ?_)
  refine vr (yr_icmp rfl (.inr (.inr (.inl rfl))) rfl rfl) ?_
  refine VL.nil (VE.then_wp (V.seq ?_))
  refine V.cond rfl (fun h1 => ?_) (fun h1 => ?_)
  · skip
    replace h1 := ic_lss h1
    refine V.skip (VE.then_wp (V.seq (V.block (V.seq (V.region ?_)))))
    refine vr (yr_move rfl rfl) ?_
    refine vq (yq_idx (k := k) rfl Try.underlying23 sz26_Normal rfl rfl zz0 zz3 (by first | exact fl_length _ | (rw [fl_length, addL_length]; exact hX)) (by first | omega | (rw [addL_length, hX]; omega))) ?_
    refine vq (yq_loadF rfl fb26_Normal rfl zz0 (by first | omega | (rw [addL_length, hX]; omega))) ?_
    refine vr (yr_assign rfl rfl) ?_
    refine vr (yr_assign rfl rfl) ?_
    refine VL.nil (VE.then_wp (V.region ?_))
    refine vr (yr_move rfl rfl) ?_
    refine vr (yr_move rfl rfl) ?_
    refine vr (yr_move rfl rfl) ?_
    refine vr (yr_move rfl rfl) ?_
    refine vq (yq_idx (k := k) rfl Try.underlying23 sz26_Normal rfl rfl zz0 zz3 (by first | exact fl_length _ | (rw [fl_length, addL_length]; exact hX)) (by first | omega | (rw [addL_length, hX]; omega))) ?_
    refine vq (yq_loadF rfl fb26_Normal rfl zz0 (by first | omega | (rw [addL_length, hX]; omega))) ?_
    refine vr (yr_move rfl rfl) ?_
    refine vr (yr_float rfl (.inl rfl) rfl rfl) ?_
    refine vq (yq_idx (k := k) rfl Try.underlying23 sz26_Normal rfl rfl zz0 zz3 (by first | exact fl_length _ | (rw [fl_length, addL_length]; exact hX)) (by first | omega | (rw [addL_length, hX]; omega))) ?_
    refine VL.s (.inl rfl) rfl (yc_store rfl sz26_Normal rfl rfl zz8 (.inl ⟨rfl, rfl⟩) rfl (by rw [fl_length, addL_length, hX]; omega) (by decide) (fl_set _ _ _)) ?_
    rintro ⟨⟩
    refine VL.nil (VE.block_normal (VE.then_wp (V.region ?_)))
    refine vr (yr_int rfl rfl rfl (.inl ⟨rfl, wrap_in (by omega)⟩)) ?_
    refine vr (yr_move rfl rfl) ?_
    refine VL.nil ?_
    refine VE.round (k + 1) ?_ ?_ ?_ ?_ ?_
    · exact (.cons rfl .nil)
    · exact (.cons rfl (.cons rfl (.cons rfl .nil)))
    · exact (fun w hw => hw)
    · omega
    · (try dsimp only); omega
  replace h1 := ic_lss' h1
  refine V.exit ?_
  refine VE.then_exit (VE.then_exit (VE.block_here ?_))
  refine VE.fall ?_
  refine ret0 rfl (fun w1 hw => ?_)
  obtain rfl : k = Y.length := by omega
  exact ⟨(), rfl, hw⟩
end Go.Proofs.Ytgeflnjjppgooaa.Q

namespace Go.Proofs.Ytgeflnjjppgooaa.Q
open Go Go.Conc Go.RowKit
section
variable [PhC] {P : Program} {m : Bool} {S : Goroutine → World → Prop} {ops : Array Oper} {i : Nat} {rest : List Nat} {o : Oper} {b : Frame} {a : Act} {k : List Item} {cs : List Frame} {v : World}
theorem go_val (ho : ops[i]? = some o) (hw : Region.wanted o (yielded ops a.tmps) = true) (hk : b.kind ≠ .early) (hfr : FR P (execOp a.eval o))
    (h : ∀ v1, Ext v v1 → ∃ x v2, (execOp a.eval o).run P v1 = .ok (.value x) v2 ∧ Go3 P m S (G (b.at (a.put o.dst x) (.inRegion ops rest :: k)) cs) v2) :
    Go3 P m S (G (b.at a (.inRegion ops (i :: rest) :: k)) cs) v :=
  Go3.mk rfl fun v1 hx => by
    obtain ⟨x, v2, hr, hg⟩ := h v1 hx
    exact ⟨_, v2, stepTo_oper hfr hr fun w w' h => stepG_value ho hw hk h, hg⟩
/-- An operation that turns nothing. -/
theorem go_pure (x : Value) (ho : ops[i]? = some o) (hw : Region.wanted o (yielded ops a.tmps) = true) (hk : b.kind ≠ .early) (hfr : FR P (execOp a.eval o))
    (hr : ∀ v1, Ext v v1 → (execOp a.eval o).run P v1 = .ok (.value x) v1) (h : Go3 P m S (G (b.at (a.put o.dst x) (.inRegion ops rest :: k)) cs) v) :
    Go3 P m S (G (b.at a (.inRegion ops (i :: rest) :: k)) cs) v :=
  go_val ho hw hk hfr fun v1 hx => ⟨x, v1, hr v1 hx, h.ext hx⟩
/-- A call: the callee's frame comes on top. -/
theorem go_in {f : FuncId} {fn : Func} {c : Code} (args : Array Value) (hf : P.funcs[f]? = some fn) (hb : fn.body = some c) (ho : ops[i]? = some o) (hw : Region.wanted o (yielded ops a.tmps) = true) (hk : b.kind ≠ .early) (hfr : FR P (execOp a.eval o))
    (hr : ∀ v1, Ext v v1 → (execOp a.eval o).run P v1 = .ok (.enter f args) v1)
    (h : Go3 P m S (G ((base f).at { tmps := args ++ Array.replicate (fn.ntmps - args.size) undef, defers := [] } [.code c]) (b.at a (.inRegion ops (i :: rest) :: k) :: cs)) v) :
    Go3 P m S (G (b.at a (.inRegion ops (i :: rest) :: k)) cs) v :=
  Go3.mk rfl fun v1 hx => by
    refine ⟨_, v1, stepTo_oper hfr (hr v1 hx) fun w w' h => stepG_enter ho hw hk h, ?_⟩
    rw [enter_at _ hf hb]
    exact h.ext hx
omit [PhC] in
theorem run_results0 {fn : Func} (h : fn.results = #[]) (tmps : Array Value) (w : World) : (results fn tmps).run P w = .ok (.tuple #[]) w := by simp [results, h]
omit [PhC] in
theorem ev_results0 {fn : Func} (h : fn.results = #[]) (tmps : Array Value) (w : World) : (results fn tmps).events P w #[] = #[] := by simp [results, h]
theorem go_leave0 {fn : Func} {todo : List Item} {b₀ : Frame} {a₀ : Act} (hn : b.kind = .normal) (hd : a.defers = []) (hf : P.funcs[b.fn]? = some fn) (hr : fn.results = #[])
    (h : Go3 P m S (G (b₀.at (a₀.put ((ops[i]?).bind (·.dst)) (.tuple #[])) (.inRegion ops rest :: k)) cs) v) :
    Go3 P m S (G { b.at a todo with mode := .returning } (b₀.at a₀ (.inRegion ops (i :: rest) :: k) :: cs)) v :=
  .ctl rfl (fun w => by rw [leave_any hn hd hf (run_results0 hr _ w), ev_results0 hr, seen_none, Frame.finish_at]) h
end
end Go.Proofs.Ytgeflnjjppgooaa.Q

namespace Go.Proofs.Ytgeflnjjppgooaa.Y
open Go Go.Conc Go.RowKit Go.Proofs.Ytgeflnjjppgooaa Go.Proofs.Ytgeflnjjppgooaa.Q
/-- A rank: below a node stands one for each world. -/
inductive Rk where
  | leaf
  | node (f : World → Rk)
/-- One step down. -/
inductive Dn : Rk → Rk → Prop
  | mk (f : World → Rk) (w : World) : Dn (f w) (.node f)
theorem Dn.wf : WellFounded Dn := ⟨fun r => by
  induction r with
  | leaf => exact ⟨_, fun y h => nomatch h⟩
  | node f ih => exact ⟨_, fun y h => by cases h with | mk _ w => exact ih w⟩⟩
def nat : Nat → Rk
  | 0 => .leaf
  | n + 1 => .node fun _ => nat n
theorem dn_nat (n : Nat) : Dn (nat n) (nat (n + 1)) := .mk (fun _ => nat n) ⟨#[], fun _ _ => 0, 0, default, #[]⟩
/-- One of the first N goes down, all others stand. -/
def Vec (N : Nat) (F' F : Nat → Rk) : Prop := ∃ x, x < N ∧ Dn (F' x) (F x) ∧ ∀ y, y ≠ x → F' y = F y
theorem Vec.wf : ∀ N, WellFounded (Vec N)
  | 0 => ⟨fun F => ⟨_, fun G ⟨x, hx, _⟩ => absurd hx (Nat.not_lt_zero x)⟩⟩
  | N + 1 => by
    have ih := Vec.wf N
    have key : ∀ r : Rk, ∀ F : Nat → Rk, F N = r → Acc (Vec (N + 1)) F := by
      intro r
      induction r using Dn.wf.induction with
      | _ r ihr =>
        intro F
        induction F using ih.induction with
        | _ F ihF =>
          intro hF
          refine ⟨_, fun G ⟨x, hx, hd, hy⟩ => ?_⟩
          rcases Nat.lt_or_ge x N with hlt | hge
          · exact ihF G ⟨x, hlt, hd, hy⟩ ((hy N (by omega)).trans hF)
          · obtain rfl : x = N := by omega
            exact ihr (G x) (hF ▸ hd) G rfl
    exact ⟨fun F => key _ F rfl⟩
/-- First the number, then the others' ranks, then the starter's. -/
abbrev Mu := Nat × (Nat → Rk) × Rk
def Lt (N : Nat) : Mu → Mu → Prop := Prod.Lex (· < ·) (Prod.Lex (Vec N) Dn)
theorem Lt.wf (N : Nat) : WellFounded (Lt N) := (Prod.lex ⟨_, Nat.lt_wfRel.wf⟩ ⟨_, (Prod.lex ⟨_, Vec.wf N⟩ ⟨_, Dn.wf⟩).wf⟩).wf
theorem Lt.num {N a b : Nat} {F G : Nat → Rk} {r s : Rk} (h : a < b) : Lt N (a, F, r) (b, G, s) := Prod.Lex.left _ _ h
theorem Lt.vec {N a : Nat} {F G : Nat → Rk} {r s : Rk} (h : Vec N F G) : Lt N (a, F, r) (a, G, s) := Prod.Lex.right _ (Prod.Lex.left _ _ h)
theorem Lt.own {N a : Nat} {F : Nat → Rk} {r s : Rk} (h : Dn r s) : Lt N (a, F, r) (a, F, s) := Prod.Lex.right _ (Prod.Lex.right _ h)
/-- A stretch of a run: a measure that falls till Q holds. -/
theorem reach_of_inv {P : Program} {α : Type} {r : α → α → Prop} (wf : WellFounded r) (Inv : α → Machine → Trace → Prop) (Q : Machine → Trace → Prop)
    (h : ∀ μ m t, Inv μ m t → ∃ m' ops, stepT P m = (.next m', ops) ∧ (Q m' (t ++ ops) ∨ ∃ μ', r μ' μ ∧ Inv μ' m' (t ++ ops))) :
    ∀ μ m t, Inv μ m t → ∃ n m' t', runNT P n m t = (.next m', t') ∧ Q m' t' := by
  intro μ
  induction μ using wf.induction with
  | _ μ ih =>
    intro m t hI
    obtain ⟨m', ops, hs, hq | ⟨μ', hr, hI'⟩⟩ := h μ m t hI
    · exact ⟨1, m', t ++ ops, by rw [runNT_succ_next hs]; rfl, hq⟩
    · obtain ⟨n, m'', t'', h1, h2⟩ := ih μ' hr m' (t ++ ops) hI'
      exact ⟨n + 1, m'', t'', by rw [runNT_succ_next hs]; exact h1, h2⟩
/-- No stretch of starting and joining. -/
@[reducible] def noPh : PhC := ⟨fun _ _ _ _ _ => False, Bool, id⟩
def GoR (P : Program) (m : Bool) (S : Goroutine → World → Prop) : Rk → Goroutine → World → Prop
  | .leaf, g, v => ∀ v1, Ext v v1 → S g v1
  | .node f, g, v => (∀ v1, Ext v v1 → S g v1) ∨ (g.status = .running ∧ ∀ v1, Ext v v1 → ∃ g' v', StepTo P m g v1 g' v' ∧ GoR P m S (f v1) g' v')
section
variable {P : Program} {m : Bool} {S : Goroutine → World → Prop} {g : Goroutine} {v v1 : World} {r : Rk}
theorem GoR.ext (h : GoR P m S r g v) (hx : Ext v v1) : GoR P m S r g v1 := by
  cases r with
  | leaf => exact fun v2 h2 => h v2 (hx.trans h2)
  | node f => exact h.imp (fun h v2 h2 => h v2 (hx.trans h2)) fun h => ⟨h.1, fun v2 h2 => h.2 v2 (hx.trans h2)⟩
theorem GoR.of (h : @Go3 noPh P m S g v) : ∃ r, GoR P m S r g v := by
  classical
  induction h with
  | stop h => exact ⟨.leaf, h⟩
  | @step g v hs g' v' h hn ih =>
    refine ⟨.node fun v1 => if hx : Ext v v1 then (ih v1 hx).choose else .leaf, .inr ⟨hs, fun v1 hx => ⟨g' v1, v' v1, h v1 hx, ?_⟩⟩⟩
    show GoR P m S (if hx : Ext v v1 then (ih v1 hx).choose else .leaf) (g' v1) (v' v1)
    rw [dif_pos hx]
    exact (ih v1 hx).choose_spec
  | phase K h hn ih => exact (h _ (Ext.refl _)).elim
theorem GoR.cases (h : GoR P m S r g v) : S g v ∨ (g.status = .running ∧ ∃ g' v' r', Dn r' r ∧ StepTo P m g v g' v' ∧ GoR P m S r' g' v') := by
  cases r with
  | leaf => exact .inl (h v (Ext.refl v))
  | node f =>
    rcases h with h | ⟨hs, h⟩
    · exact .inl (h v (Ext.refl v))
    · obtain ⟨g', v', h1, h2⟩ := h v (Ext.refl v)
      exact .inr ⟨hs, g', v', f v, .mk f v, h1, h2⟩
end
end Go.Proofs.Ytgeflnjjppgooaa.Y

namespace Go.Proofs.Ytgeflnjjppgooaa.Y
open Go Go.Conc Go.RowKit Go.Proofs.Ytgeflnjjppgooaa Go.Proofs.Ytgeflnjjppgooaa.Q
def deadAt (b : Nat) : Obj → Obj
  | .cells _ ty _ => .cells #[] ty (0, 0)
  | .view _ _ => .view ⟨b, 0, none⟩ 0
  | o => o
theorem br_dead (b : Nat) (o : Obj) : BR b (some (deadAt b o)) (some o) := by
  cases o <;> first | exact .dead | exact .view | exact .same (fun a t h => by cases h)
/-- The view of one who has done nothing, once the world has come to w'. -/
def up (v w' : World) : World := { v with heap := v.heap ++ (w'.heap.extract v.heap.size w'.heap.size).mapIdx fun i o => deadAt (v.heap.size + i) o, drawn := w'.drawn }
theorem up_get (v w' : World) (b : Nat) : (up v w').heap[b]? = if b < v.heap.size then v.heap[b]? else (w'.heap[b]?).map (deadAt b) := by
  simp only [up, Array.getElem?_append, Array.getElem?_mapIdx, Array.getElem?_extract]
  split
  · rfl
  · rename_i h
    have e : v.heap.size + (b - v.heap.size) = b := by omega
    split
    · rw [e]
    · rename_i h2
      rw [Array.getElem?_eq_none (xs := w'.heap) (by omega)]; rfl
theorem up_size {v w' : World} (h : v.heap.size ≤ w'.heap.size) : (up v w').heap.size = w'.heap.size := by
  simp [up]; omega
theorem up_ext (v w' : World) : Ext v (up v w') := by
  refine ⟨rfl, rfl, rfl, by simp [up], fun b hb => ?_⟩
  rw [up_get, if_pos hb]
theorem up_old {v w' : World} {b : Nat} (h : b < v.heap.size) : (up v w').heap[b]? = v.heap[b]? := by rw [up_get, if_pos h]
section
variable {v v' w w' u : World} {b : Nat}
theorem rdb_lt (h : Rdb v b) : b < v.heap.size := let ⟨_, _, _, h, _⟩ := h; (Array.getElem?_eq_some_iff.1 h).1
theorem liv_lt (h : Liv v b) : b < v.heap.size := rdb_lt h.rdb
theorem rdb_of_eq (h : v'.heap[b]? = v.heap[b]?) : Rdb v' b ↔ Rdb v b := by simp only [Rdb, h]
theorem liv_of_eq (h : v'.heap[b]? = v.heap[b]?) : Liv v' b ↔ Liv v b := by simp only [Liv, h]
theorem rdb_up : Rdb (up v w') b ↔ Rdb v b := by
  constructor
  · intro h
    rcases Nat.lt_or_ge b v.heap.size with hlt | hge
    · exact (rdb_of_eq (up_old hlt)).1 h
    · obtain ⟨c, ty, z, h1, h2⟩ := h
      rw [up_get, if_neg (by omega)] at h1
      obtain ⟨o, _, ho⟩ := Option.map_eq_some_iff.1 h1
      cases o <;> simp [deadAt] at ho
      exact absurd ho.1 h2
  · intro h; exact (rdb_of_eq (up_old (rdb_lt h))).2 h
theorem liv_up : Liv (up v w') b ↔ Liv v b := by
  constructor
  · intro h
    have := rdb_up.1 h.rdb
    exact (liv_of_eq (up_old (rdb_lt this))).1 h
  · intro h; exact (liv_of_eq (up_old (liv_lt h))).2 h
theorem view_up (hu : View u w) (hs : w.heap.size ≤ w'.heap.size) (h1 : w'.tape = w.tape) (h2 : w'.os = w.os) (h3 : w'.output = w.output) (hb : ∀ b, b < u.heap.size → BR b u.heap[b]? w'.heap[b]?) : View (up u w') w' := by
  have hr := hu.rest
  have e1 : w.tape = u.tape := by rw [hr]
  have e2 : w.os = u.os := by rw [hr]
  have e3 : w.output = u.output := by rw [hr]
  refine ⟨?_, up_size (by rw [hu.size]; exact hs), fun b => ?_⟩
  · obtain ⟨hp, tp, dr, os, ou⟩ := w'
    simp only at h1 h2 h3
    simp only [up, h1, h2, h3, e1, e2, e3]
  · rw [up_get]
    split
    · exact hb b (by assumption)
    · cases h : w'.heap[b]? with
      | none => exact .same (fun a t h => by cases h)
      | some o => exact br_dead b o
/-- Another's step in its own view. -/
theorem view_other (hc : Chg v v' w w') (hv : View v w) (hu : View u w) (ex : ∀ b, Liv v b → ¬ Rdb u b) : View (up u w') w' := by
  have hr := hc.view.rest
  have hr0 := hv.rest
  have hsz : v.heap.size = u.heap.size := hv.size.trans hu.size.symm
  refine view_up hu ?_ ?_ ?_ ?_ fun b hb => ?_
  · rw [← hc.view.size, ← hv.size]; exact hc.grow
  · rw [hr, hr0]; exact hc.tape
  · rw [hr, hr0]; exact hc.os
  · rw [hr, hr0]; exact hc.output
  · by_cases hl : Liv v b
    · have hn := ex b hl
      obtain ⟨c, ty, z, h1, h2, h3⟩ := hl
      have hbv := hv.blk b
      have hbu := hu.blk b
      obtain ⟨c', z', hk⟩ := hc.kind b c ty z h1
      have hbw := hc.view.blk b
      rw [hk] at hbw
      rw [h1] at hbv
      generalize hwb : w.heap[b]? = x at hbv hbu
      have hx : x = some (.cells c ty z) := by
        cases hbv with
        | same _ => rfl
        | dead => exact absurd rfl h2
        | fro => exact absurd rfl h3
      subst hx
      have hw' : ∃ c2 z2, w'.heap[b]? = some (.cells c2 ty z2) := by
        generalize w'.heap[b]? = y at hbw
        cases hbw with
        | same _ => exact ⟨_, _, rfl⟩
        | dead => exact ⟨_, _, rfl⟩
        | fro => exact ⟨_, _, rfl⟩
      obtain ⟨c2, z2, hw2⟩ := hw'
      rw [hw2]
      generalize hub : u.heap[b]? = y at hbu
      cases hbu with
      | same _ => exact absurd ⟨c, ty, z, hub, h2⟩ hn
      | dead => exact .dead
      | fro => exact absurd ⟨c, ty, _, hub, h2⟩ hn
    · rw [(hc.keep b (by rw [hsz]; exact hb) hl).2]
      exact hu.blk b
/-- One block turns that u cannot read. -/
theorem view_block {c c' : Array Value} {ty : TypeId} {z z' : Nat × Nat} (hu : View u w) (hw : w.heap[b]? = some (.cells c ty z)) (hc : c ≠ #[]) (hw' : w'.heap[b]? = some (.cells c' ty z')) (oth : ∀ k, k ≠ b → w'.heap[k]? = w.heap[k]?)
    (hs : w'.heap.size = w.heap.size) (h1 : w'.tape = w.tape) (h2 : w'.os = w.os) (h3 : w'.output = w.output) (hd : ¬ Rdb u b) : View (up u w') w' := by
  refine view_up hu (by omega) h1 h2 h3 fun k _ => ?_
  by_cases e : k = b
  · subst e
    have hb := hu.blk k
    rw [hw] at hb
    rw [hw']
    generalize hub : u.heap[k]? = y at hb
    cases hb with
    | same _ => exact absurd ⟨c, ty, z, hub, hc⟩ hd
    | dead => exact .dead
    | fro => exact absurd ⟨c, ty, _, hub, hc⟩ hd
  · rw [oth k e]; exact hu.blk k
/-- Nothing turns but the count of draws. -/
theorem view_same (hu : View u w) (hb : w'.heap = w.heap) (h1 : w'.tape = w.tape) (h2 : w'.os = w.os) (h3 : w'.output = w.output) : View (up u w') w' :=
  view_up hu (by rw [hb]; exact Nat.le_refl _) h1 h2 h3 fun b _ => by rw [hb]; exact hu.blk b
end
def frzO : Obj → Obj
  | .cells c ty _ => .cells c ty (0, c.size)
  | o => o
def frz (v : World) : World := { v with heap := v.heap.map frzO }
def killO : Obj → Obj
  | .cells _ ty _ => .cells #[] ty (0, 0)
  | o => o
def kill (S : Nat → Bool) (v : World) : World := { v with heap := v.heap.mapIdx fun b o => if S b then killO o else o }
section
variable {v w : World} {S : Nat → Bool} {b : Nat}
theorem frz_get : (frz v).heap[b]? = (v.heap[b]?).map frzO := by simp [frz]
theorem kill_get : (kill S v).heap[b]? = (v.heap[b]?).map fun o => if S b then killO o else o := by simp [kill]
theorem view_frz (h : View v w) : View (frz v) w := by
  refine ⟨by rw [h.rest]; rfl, by simp [frz, h.size], fun b => ?_⟩
  rw [frz_get]
  have hb := h.blk b
  generalize v.heap[b]? = x at hb
  generalize w.heap[b]? = y at hb
  cases hb with
  | same hn =>
    cases x with
    | none => exact .same (fun a t h => by cases h)
    | some o => cases o <;> first | exact .fro | exact absurd rfl (hn _ _) | exact .same (fun a t h => by cases h)
  | view => exact .view
  | dead => exact .dead
  | fro => exact .fro
theorem view_kill (h : View v w) : View (kill S v) w := by
  refine ⟨by rw [h.rest]; rfl, by simp [kill, h.size], fun b => ?_⟩
  rw [kill_get]
  have hb := h.blk b
  generalize v.heap[b]? = x at hb
  generalize w.heap[b]? = y at hb
  cases hS : S b with
  | false =>
    have : x.map (fun o => if false = true then killO o else o) = x := by cases x <;> rfl
    rw [this]; exact hb
  | true =>
    have : x.map (fun o => if true = true then killO o else o) = x.map killO := by cases x <;> rfl
    rw [this]
    cases hb with
    | same hn =>
      cases x with
      | none => exact .same (fun a t h => by cases h)
      | some o => cases o <;> first | exact .dead | exact absurd rfl (hn _ _) | exact .same (fun a t h => by cases h)
    | view => exact .view
    | dead => exact .dead
    | fro => exact .dead
theorem not_liv_frz : ¬ Liv (frz v) b := by
  rintro ⟨c, ty, z, h1, _, h3⟩
  rw [frz_get] at h1
  obtain ⟨o, _, ho⟩ := Option.map_eq_some_iff.1 h1
  cases o <;> simp [frzO] at ho
  obtain ⟨rfl, _, rfl⟩ := ho
  exact h3 rfl
theorem rdb_frz : Rdb (frz v) b ↔ Rdb v b := by
  constructor
  · rintro ⟨c, ty, z, h1, h2⟩
    rw [frz_get] at h1
    obtain ⟨o, ho1, ho⟩ := Option.map_eq_some_iff.1 h1
    cases o <;> simp [frzO] at ho
    obtain ⟨rfl, rfl, _⟩ := ho
    exact ⟨_, _, _, ho1, h2⟩
  · rintro ⟨c, ty, z, h1, h2⟩
    exact ⟨c, ty, _, by rw [frz_get, h1]; rfl, h2⟩
theorem rdb_kill : Rdb (kill S v) b ↔ Rdb v b ∧ S b = false := by
  constructor
  · rintro ⟨c, ty, z, h1, h2⟩
    rw [kill_get] at h1
    obtain ⟨o, ho1, ho⟩ := Option.map_eq_some_iff.1 h1
    cases hS : S b with
    | false => rw [hS] at ho; simp at ho; subst ho; exact ⟨⟨_, _, _, ho1, h2⟩, rfl⟩
    | true =>
      rw [hS] at ho
      simp at ho
      cases o <;> simp [killO] at ho
      exact absurd ho.1 h2
  · rintro ⟨⟨c, ty, z, h1, h2⟩, hS⟩
    exact ⟨c, ty, z, by rw [kill_get, h1, hS]; rfl, h2⟩
theorem liv_kill : Liv (kill S v) b ↔ Liv v b ∧ S b = false := by
  constructor
  · intro h
    have := rdb_kill.1 h.rdb
    refine ⟨?_, this.2⟩
    obtain ⟨c, ty, z, h1, h2⟩ := h
    rw [kill_get, this.2] at h1
    simp at h1
    exact ⟨c, ty, z, h1, h2⟩
  · rintro ⟨⟨c, ty, z, h1, h2⟩, hS⟩
    exact ⟨c, ty, z, by rw [kill_get, h1, hS]; rfl, h2⟩
end
end Go.Proofs.Ytgeflnjjppgooaa.Y

namespace Go.Proofs.Ytgeflnjjppgooaa.Y
open Go Go.Conc Go.RowKit
open Go.ConcN (fork_knows RelBy)
/-- Sh: blocks touched by the library's own atomic steps alone; Rd x b: x may read block b; Wr x a: x alone may touch cell a; Act x: x may touch Sh; L: above it are the workers of this phase; rel: when each has said its release; all that is named lies below B; G goroutines. -/
structure TI (Sh : Nat → Prop) (Rd : Nat → Nat → Prop) (Wr : Nat → Addr → Prop) (Act : Nat → Prop) (rel : Nat → Option Nat) (L B G : Nat) (t : Trace) : Prop where
  clean : ∀ said, ¬ Race said t
  rd : ∀ x b, Rd x b → ∀ i a ad, touchAt t i = some a → a.loc = .cell ad → ad.block = b → a.write = true → Knows t x i
  wr : ∀ x ad, Wr x ad → ∀ i a, touchAt t i = some a → a.loc = .cell ad → Knows t x i
  sh : ∀ i a ad, touchAt t i = some a → a.loc = .cell ad → Sh ad.block → (a.kind ≠ .plain ∧ (a.kind = .said → t.g? i = some 0)) ∨ ∀ x, Act x → Knows t x i
  ob : ∀ i a r, touchAt t i = some a → a.loc = .obj r → a.write = false
  kn : ∀ i a, touchAt t i = some a → a.loc.isMemory = true → Knows t 0 i ∨ ((∃ ad, a.loc = .cell ad ∧ Sh ad.block) ∧ a.kind = .atomic ∧ ¬ t.heard i) ∨ ∃ x, L < x ∧ t.g? i = some x ∧ ∀ r, rel x = some r → i < r
  seen : ∀ op ∈ t, op.act.low B
  gs : ∀ op ∈ t, op.g < G
/-- What x may do. -/
def OkOp (Sh : Nat → Prop) (Rd : Nat → Nat → Prop) (Wr : Nat → Addr → Prop) (B x : Nat) (op : MemOp) : Prop :=
  ∀ b, op.act.touch? = some b → (∃ r, b.loc = .obj r ∧ b.write = false) ∨
    ∃ ad, b.loc = .cell ad ∧ ((Sh ad.block ∧ b.kind ≠ .plain ∧ (b.kind = .said → x = 0)) ∨ B ≤ ad.block ∨ Wr x ad ∨ (Rd x ad.block ∧ b.write = false))
theorem touch_low {op : MemAct} {a : Touch} {ad : Addr} {B : Nat} (h : op.touch? = some a) (hl : a.loc = .cell ad) (hb : op.low B) : ad.block < B := by
  cases op <;> simp only [MemAct.touch?] at h <;> try cases h
  · rename_i e
    simp only [MemAct.low] at hb
    simp only at hl
    rw [hl] at hb
    exact hb
  · rename_i m
    cases m <;> simp only [Option.some.injEq] at h <;> try cases h
    · cases hl; exact hb
    · cases hl; exact hb
/-- What stands of every two rights. -/
structure Fit (Sh : Nat → Prop) (Rd : Nat → Nat → Prop) (Wr : Nat → Addr → Prop) (B : Nat) : Prop where
  ex1 : ∀ x ad, Wr x ad → ∀ y, y ≠ x → ¬ Rd y ad.block ∧ ¬ Wr y ad
  lo : ∀ y b, Rd y b → b < B
  lo2 : ∀ y (ad : Addr), Wr y ad → ad.block < B
  shb : ∀ b, Sh b → b < B
  shr : ∀ b, Sh b → ∀ y, ¬ Rd y b
  shw : ∀ (ad : Addr), Sh ad.block → ∀ y, ¬ Wr y ad
section
variable {Sh : Nat → Prop} {Rd Rd' : Nat → Nat → Prop} {Wr Wr' : Nat → Addr → Prop} {Act Act' : Nat → Prop} {rel : Nat → Option Nat} {L B B' G : Nat} {t u : Trace}
theorem TI.step (h : TI Sh Rd Wr Act rel L B G t) (F : Fit Sh Rd Wr B) {x : Nat} (hx : Act x) (hxG : x < G) (hB : B ≤ B') (hu : ∀ op ∈ u, op.g = x) (ok : ∀ op ∈ u, OkOp Sh Rd Wr B x op) (lw : ∀ op ∈ u, op.act.low B')
    (hk : ∀ i op b, t.size ≤ i → (t ++ u)[i]? = some op → op.act.touch? = some b → x = 0 ∨ (L < x ∧ rel x = none) ∨ ((∃ ad, b.loc = .cell ad ∧ Sh ad.block) ∧ b.kind = .atomic ∧ ¬ (t ++ u).heard i))
    (rd' : ∀ y b, Rd' y b → Rd y b ∨ (y = x ∧ B ≤ b)) (wr' : ∀ y ad, Wr' y ad → Wr y ad ∨ (y = x ∧ B ≤ ad.block)) : TI Sh Rd' Wr' Act rel L B' G (t ++ u) := by
  have fresh : ∀ i a ad, touchAt t i = some a → a.loc = .cell ad → ad.block < B := fun i a ad ha hl => by
    obtain ⟨z, hz, hza⟩ := touch_of ha
    exact touch_low hza hl (h.seen z (Array.mem_of_getElem? hz))
  refine ⟨fun said => noRace_append (h.clean said) hu fun i a ha op hop b hb hc => ?_, fun y b hy i a ad ha hl hab hw => ?_, fun y ad hy i a ha hl => ?_, fun i a ad ha hl hs => ?_, fun i a r ha hl => ?_, fun i a ha hm => ?_, ?_, ?_⟩
  · obtain ⟨hloc, _, hww, hkk⟩ := hc
    rcases ok op hop b hb with ⟨r, hr, hw⟩ | ⟨ad, had, hcase⟩
    · have := h.ob i a r ha (hloc.trans hr)
      rw [this, hw] at hww; simp at hww
    · have hla := hloc.trans had
      rcases hcase with ⟨hs, hnp, hsd⟩ | hf | hwr | ⟨hr, hw⟩
      · rcases h.sh i a ad ha hla hs with ⟨h1, h2⟩ | h1
        · rcases hkk with e | e | ⟨_, e1, e2⟩
          · exact absurd e h1
          · exact absurd e hnp
          · obtain ⟨z, hz, _⟩ := touch_of ha
            have h3 := h2 e1
            have : z.g = 0 := by simpa [Trace.g?, hz] using h3
            have h4 := knows_own hz
            rw [this] at h4
            rw [hsd e2]; exact h4
        · exact h1 x hx
      · exact absurd (fresh i a ad ha hla) (by omega)
      · exact h.wr x ad hwr i a ha hla
      · exact h.rd x _ hr i a ad ha hla rfl (by rw [hw] at hww; simpa using hww)
  · obtain ⟨z, hz, hza⟩ := touch_of ha
    rcases getElem?_append_cases hz with ⟨hi, hz'⟩ | ⟨hi, hzu⟩
    · have ha' : touchAt t i = some a := by rw [touchAt_of hz']; exact hza
      rcases rd' y b hy with hr | ⟨_, hf⟩
      · exact (h.rd y b hr i a ad ha' hl hab hw).app u
      · exact absurd (fresh i a ad ha' hl) (by omega)
    · by_cases e : y = x
      · have := knows_own hz
        rw [hu z hzu] at this
        rw [e]; exact this
      · exfalso
        have hr := (rd' y b hy).resolve_right (fun h => e h.1)
        rcases ok z hzu a hza with ⟨r, h1, h2⟩ | ⟨ad', had, hcase⟩
        · rw [hl] at h1; cases h1
        · rw [hl] at had; cases had
          subst hab
          rcases hcase with ⟨hs, _⟩ | hf | hwr | ⟨_, hnw⟩
          · exact F.shr _ hs y hr
          · have := F.lo y _ hr; omega
          · exact (F.ex1 x ad hwr y e).1 hr
          · rw [hw] at hnw; cases hnw
  · obtain ⟨z, hz, hza⟩ := touch_of ha
    rcases getElem?_append_cases hz with ⟨hi, hz'⟩ | ⟨hi, hzu⟩
    · have ha' : touchAt t i = some a := by rw [touchAt_of hz']; exact hza
      rcases wr' y ad hy with hr | ⟨_, hf⟩
      · exact (h.wr y ad hr i a ha' hl).app u
      · exact absurd (fresh i a ad ha' hl) (by omega)
    · by_cases e : y = x
      · have := knows_own hz
        rw [hu z hzu] at this
        rw [e]; exact this
      · exfalso
        have hr := (wr' y ad hy).resolve_right (fun h => e h.1)
        rcases ok z hzu a hza with ⟨r, h1, h2⟩ | ⟨ad', had, hcase⟩
        · rw [hl] at h1; cases h1
        · rw [hl] at had; cases had
          rcases hcase with ⟨hs, _⟩ | hf | hwr | ⟨hrd, _⟩
          · exact F.shw _ hs y hr
          · have := F.lo2 y _ hr; omega
          · exact (F.ex1 x ad hwr y e).2 hr
          · exact (F.ex1 y ad hr x (Ne.symm e)).1 hrd
  · obtain ⟨z, hz, hza⟩ := touch_of ha
    rcases getElem?_append_cases hz with ⟨hi, hz'⟩ | ⟨hi, hzu⟩
    · have ha' : touchAt t i = some a := by rw [touchAt_of hz']; exact hza
      rcases h.sh i a ad ha' hl hs with ⟨h1, h2⟩ | h1
      · exact .inl ⟨h1, fun e => by rw [g?_old hi]; exact h2 e⟩
      · exact .inr fun y hy => (h1 y hy).app u
    · rcases ok z hzu a hza with ⟨r, h1, h2⟩ | ⟨ad', had, hcase⟩
      · rw [hl] at h1; cases h1
      · rw [hl] at had; cases had
        rcases hcase with ⟨_, h1, h2⟩ | hf | hwr | ⟨hrd, _⟩
        · exact .inl ⟨h1, fun e => by simp [Trace.g?, hz, hu z hzu, h2 e]⟩
        · have := F.shb _ hs; omega
        · exact absurd hwr (F.shw _ hs x)
        · exact absurd hrd (F.shr _ hs x)
  · obtain ⟨z, hz, hza⟩ := touch_of ha
    rcases getElem?_append_cases hz with ⟨hi, hz'⟩ | ⟨hi, hzu⟩
    · exact h.ob i a r (by rw [touchAt_of hz']; exact hza) hl
    · rcases ok z hzu a hza with ⟨r, h1, h2⟩ | ⟨ad', had, hcase⟩
      · exact h2
      · rw [hl] at had; cases had
  · obtain ⟨z, hz, hza⟩ := touch_of ha
    rcases getElem?_append_cases hz with ⟨hi, hz'⟩ | ⟨hi, hzu⟩
    · rcases h.kn i a (by rw [touchAt_of hz']; exact hza) hm with h1 | ⟨h1, h2, h3⟩ | ⟨y, h1, h2, h3⟩
      · exact .inl (h1.app u)
      · exact .inr (.inl ⟨h1, h2, by rw [heard_old hi]; exact h3⟩)
      · exact .inr (.inr ⟨y, h1, by rw [g?_old hi]; exact h2, h3⟩)
    · rcases hk i z a hi hz hza with rfl | ⟨h1, h2⟩ | h1
      · have := knows_own hz
        rw [hu z hzu] at this
        exact .inl this
      · exact .inr (.inr ⟨x, h1, by simp [Trace.g?, hz, hu z hzu], fun r hr => by rw [h2] at hr; cases hr⟩)
      · exact .inr (.inl h1)
  · exact seen_app (fun op hop => MemAct.low_mono hB (h.seen op hop)) lw
  · intro op hop
    rcases Array.mem_append.1 hop with h1 | h1
    · exact h.gs op h1
    · rw [hu op h1]; exact hxG
/-- Rights may be dropped. -/
theorem TI.weak (h : TI Sh Rd Wr Act rel L B G t) (hr : ∀ y b, Rd' y b → Rd y b) (hw : ∀ y ad, Wr' y ad → Wr y ad) (ha : ∀ y, Act' y → Act y) : TI Sh Rd' Wr' Act' rel L B G t :=
  ⟨h.clean, fun x b hx => h.rd x b (hr x b hx), fun x ad hx => h.wr x ad (hw x ad hx), fun i a ad h1 h2 h3 => (h.sh i a ad h1 h2 h3).imp id fun h4 y hy => h4 y (ha y hy), h.ob, h.kn, h.seen, h.gs⟩
/-- A step that touches nothing. -/
theorem TI.mute (h : TI Sh Rd Wr Act rel L B G t) (hB : B ≤ B') (ng : ∀ op ∈ u, op.g < G) (hn : ∀ op ∈ u, op.act.touch? = none) (lw : ∀ op ∈ u, op.act.low B') {x : Nat} (hu : ∀ op ∈ u, op.g = x) : TI Sh Rd Wr Act rel L B' G (t ++ u) := by
  have old : ∀ {i a}, touchAt (t ++ u) i = some a → i < t.size ∧ touchAt t i = some a := fun {i a} ha => by
    obtain ⟨z, hz, hza⟩ := touch_of ha
    rcases getElem?_append_cases hz with ⟨hi, hz'⟩ | ⟨hi, hzu⟩
    · exact ⟨hi, by rw [touchAt_of hz']; exact hza⟩
    · rw [hn z hzu] at hza; cases hza
  refine ⟨fun said => noRace_append (h.clean said) hu fun i a _ op hop b hb _ => (by rw [hn op hop] at hb; cases hb), fun y b hy i a ad ha hl hab hw => (h.rd y b hy i a ad (old ha).2 hl hab hw).app u, fun y ad hy i a ha hl => (h.wr y ad hy i a (old ha).2 hl).app u,
    fun i a ad ha hl hs => ?_, fun i a r ha hl => h.ob i a r (old ha).2 hl, fun i a ha hm => ?_, seen_app (fun op hop => MemAct.low_mono hB (h.seen op hop)) lw, fun op hop => ?_⟩
  · rcases h.sh i a ad (old ha).2 hl hs with ⟨h1, h2⟩ | h1
    · exact .inl ⟨h1, fun e => by rw [g?_old (old ha).1]; exact h2 e⟩
    · exact .inr fun y hy => (h1 y hy).app u
  · rcases h.kn i a (old ha).2 hm with h1 | ⟨h1, h2, h3⟩ | ⟨y, h1, h2, h3⟩
    · exact .inl (h1.app u)
    · exact .inr (.inl ⟨h1, h2, by rw [heard_old (old ha).1]; exact h3⟩)
    · exact .inr (.inr ⟨y, h1, by rw [g?_old (old ha).1]; exact h2, h3⟩)
  · rcases Array.mem_append.1 hop with h1 | h1
    · exact h.gs op h1
    · exact ng op h1
/-- A go statement. -/
theorem TI.fork (h : TI Sh Rd Wr Act rel L B G t) {x y : MemOp} (hx : x.g = 0 ∧ x.act = .go G) (hy : y.g = G ∧ y.act = .start) (hG : 0 < G) (h0 : Deaf t 0 = 0) (hk : Deaf t G = 0)
    (rd' : ∀ z b, Rd' z b → Rd z b ∨ (z = G ∧ Rd 0 b)) (wr' : ∀ z ad, Wr' z ad → Wr z ad ∨ (z = G ∧ Wr 0 ad)) (act' : ∀ z, Act' z → Act z ∨ (z = G ∧ Act 0)) : TI Sh Rd' Wr' Act' rel L B (G + 1) (t ++ #[x, y]) := by
  have hn : ∀ op ∈ #[x, y], op.act.touch? = none := by
    intro op hop
    simp only [List.mem_toArray, List.mem_cons, List.not_mem_nil, or_false] at hop
    rcases hop with rfl | rfl
    · rw [hx.2]; rfl
    · rw [hy.2]; rfl
  have old : ∀ {i a}, touchAt (t ++ #[x, y]) i = some a → i < t.size ∧ touchAt t i = some a := fun {i a} ha => by
    obtain ⟨z, hz, hza⟩ := touch_of ha
    rcases getElem?_append_cases hz with ⟨hi, hz'⟩ | ⟨hi, hzu⟩
    · exact ⟨hi, by rw [touchAt_of hz']; exact hza⟩
    · rw [hn z hzu] at hza; cases hza
  have fk : ∀ {i}, Knows t 0 i → Knows (t ++ #[x, y]) G i := fun hi => fork_knows hx hy h0 hk hi
  refine ⟨fun said => ?_, fun z b hz i a ad ha hl hab hw => ?_, fun z ad hz i a ha hl => ?_, fun i a ad ha hl hs => ?_, fun i a r ha hl => h.ob i a r (old ha).2 hl, fun i a ha hm => ?_, seen_app h.seen fun op hop => ?_, fun op hop => ?_⟩
  · have e : t ++ #[x, y] = (t ++ #[x]) ++ #[y] := by apply Array.ext'; simp
    rw [e]
    refine noRace_append (g := G) (noRace_append (g := 0) (h.clean said) (fun op hop => by simp at hop; rw [hop]; exact hx.1) (fun i a _ op hop b hb _ => ?_)) (fun op hop => by simp at hop; rw [hop]; exact hy.1) (fun i a _ op hop b hb _ => ?_)
    · rw [hn op (by simp at hop ⊢; exact .inl hop)] at hb; cases hb
    · rw [hn op (by simp at hop ⊢; exact .inr hop)] at hb; cases hb
  · rcases rd' z b hz with hr | ⟨rfl, hr⟩
    · exact (h.rd z b hr i a ad (old ha).2 hl hab hw).app _
    · exact fk (h.rd 0 b hr i a ad (old ha).2 hl hab hw)
  · rcases wr' z ad hz with hr | ⟨rfl, hr⟩
    · exact (h.wr z ad hr i a (old ha).2 hl).app _
    · exact fk (h.wr 0 ad hr i a (old ha).2 hl)
  · rcases h.sh i a ad (old ha).2 hl hs with ⟨h1, h2⟩ | h1
    · exact .inl ⟨h1, fun e => by rw [g?_old (old ha).1]; exact h2 e⟩
    · refine .inr fun z hz => ?_
      rcases act' z hz with hr | ⟨rfl, hr⟩
      · exact (h1 z hr).app _
      · exact fk (h1 0 hr)
  · rcases h.kn i a (old ha).2 hm with h1 | ⟨h1, h2, h3⟩ | ⟨z, h1, h2, h3⟩
    · exact .inl (h1.app _)
    · exact .inr (.inl ⟨h1, h2, by rw [heard_old (old ha).1]; exact h3⟩)
    · exact .inr (.inr ⟨z, h1, by rw [g?_old (old ha).1]; exact h2, h3⟩)
  · simp only [List.mem_toArray, List.mem_cons, List.not_mem_nil, or_false] at hop
    rcases hop with rfl | rfl
    · rw [hx.2]; trivial
    · rw [hy.2]; trivial
  · rcases Array.mem_append.1 hop with h1 | h1
    · exact Nat.lt_succ_of_lt (h.gs op h1)
    · simp only [List.mem_toArray, List.mem_cons, List.not_mem_nil, or_false] at h1
      rcases h1 with rfl | rfl
      · rw [hx.1]; omega
      · rw [hy.1]; omega
/-- x has said its release: it is noted when. -/
theorem TI.note (h : TI Sh Rd Wr Act rel L B G t) {x r : Nat} (hr : ∀ i a, touchAt t i = some a → i < r) : TI Sh Rd Wr Act (Go.ConcN.upd rel x (some r)) L B G t := by
  refine ⟨h.clean, h.rd, h.wr, h.sh, h.ob, fun i a ha hm => ?_, h.seen, h.gs⟩
  rcases h.kn i a ha hm with h1 | h1 | ⟨y, h1, h2, h3⟩
  · exact .inl h1
  · exact .inr (.inl h1)
  · refine .inr (.inr ⟨y, h1, h2, fun s hs => ?_⟩)
    by_cases e : y = x
    · subst e
      rw [Go.ConcN.upd_same] at hs
      cases hs
      exact hr i a ha
    · rw [Go.ConcN.upd_ne rel _ e] at hs
      exact h3 s hs
/-- THE JOIN: goroutine 0 has said 'acquire' behind all releases: it knows all. -/
theorem TI.join (h : TI Sh Rd Wr Act rel L B G t) {a : Addr} {q : Nat} (hq : t.act? q = some (.mark (.acquire a))) (hg : t.g? q = some 0) (hh : t.heard q) (hn : NoRelease a t)
    (all : ∀ x i, L < x → t.g? i = some x → ∃ r, rel x = some r ∧ RelBy a t x r ∧ r < q) : ∀ i b, touchAt t i = some b → b.loc.isMemory = true → Knows t 0 i ∨ ((∃ ad, b.loc = .cell ad ∧ Sh ad.block) ∧ b.kind = .atomic ∧ ¬ t.heard i) := by
  intro i b hb hm
  rcases h.kn i b hb hm with h1 | h1 | ⟨x, h1, h2, h3⟩
  · exact .inl h1
  · exact .inr h1
  · obtain ⟨r, hr, hrb, hrq⟩ := all x i h1 h2
    have hir := h3 r hr
    obtain ⟨z, hz, hzg⟩ := Option.map_eq_some_iff.1 hg
    refine .inl ⟨q, z, hz, hzg, .inr ?_⟩
    have edge : HappensBefore t r q := .single (.inr ⟨.marked hrq (.inr hrb.act) hq (fun k _ _ => hn k), hrb.heard, hh⟩)
    exact .trans (.single (.inl ⟨hir, x, h2, hrb.g⟩)) edge
/-- At rest: goroutine 0 may touch all that is not Sh. -/
theorem TI.rest (h : TI Sh Rd Wr Act rel L B G t) (all : ∀ i b, touchAt t i = some b → b.loc.isMemory = true → Knows t 0 i ∨ ((∃ ad, b.loc = .cell ad ∧ Sh ad.block) ∧ b.kind = .atomic ∧ ¬ t.heard i))
    (hr : ∀ y b, Rd' y b → y = 0 ∧ ¬ Sh b) (hw : ∀ y ad, Wr' y ad → y = 0 ∧ ¬ Sh ad.block) (ha : ∀ y, Act' y → Act y) {rel' : Nat → Option Nat} {L' : Nat} : TI Sh Rd' Wr' Act' rel' L' B G t := by
  refine ⟨h.clean, fun x b hx i a ad h1 h2 h3 _ => ?_, fun x ad hx i a h1 h2 => ?_, fun i a ad h1 h2 h3 => (h.sh i a ad h1 h2 h3).imp id fun h4 y hy => h4 y (ha y hy), h.ob, fun i a h1 h2 => (all i a h1 h2).imp id .inl, h.seen, h.gs⟩
  · obtain ⟨rfl, hs⟩ := hr x b hx
    rcases all i a h1 (by rw [h2]; rfl) with h4 | ⟨⟨ad', e, h4⟩, _⟩
    · exact h4
    · rw [h2] at e; cases e; exact absurd (h3 ▸ h4) hs
  · obtain ⟨rfl, hs⟩ := hw x ad hx
    rcases all i a h1 (by rw [h2]; rfl) with h4 | ⟨⟨ad', e, h4⟩, _⟩
    · exact h4
    · rw [h2] at e; cases e; exact absurd h4 hs
/-- A block that goroutine 0 alone has touched becomes the library's. -/
theorem TI.addSh {Sh' : Nat → Prop} (h : TI Sh Rd Wr Act rel L B G t) (h1 : ∀ b, Sh b → Sh' b) (h2 : ∀ ad : Addr, Sh' ad.block → Sh ad.block ∨ Wr 0 ad) (h3 : ∀ y, Act y → y = 0) : TI Sh' Rd Wr Act rel L B G t := by
  refine ⟨h.clean, h.rd, h.wr, fun i a ad ha hl hs => ?_, h.ob, fun i a ha hm => ?_, h.seen, h.gs⟩
  · rcases h2 ad hs with hs | hw
    · exact h.sh i a ad ha hl hs
    · exact .inr fun x hx => by rw [h3 x hx]; exact h.wr 0 ad hw i a ha hl
  · rcases h.kn i a ha hm with h4 | ⟨⟨ad, e, h4⟩, h5⟩ | h4
    · exact .inl h4
    · exact .inr (.inl ⟨⟨ad, e, h1 _ h4⟩, h5⟩)
    · exact .inr (.inr h4)
theorem TI.over (h : TI Sh Rd Wr Act rel L B G t) (hL : G ≤ L + 1) : t.HandedOver := by
  intro i g hgi hne hc
  obtain ⟨x, hx, hm, hk⟩ := hc
  rcases h.kn i x hx hm with h1 | ⟨_, h1, h2⟩ | ⟨y, h1, h2, _⟩
  · obtain ⟨q, z, hz, hzg, hb⟩ := h1
    rcases hb with rfl | hb
    · simp only [Trace.g?, hz, Option.map_some, Option.some.injEq] at hgi
      exact absurd (hgi.symm.trans hzg) hne
    · exact ⟨q, by simp [Trace.g?, hz, hzg], hb⟩
  · rcases hk with hk | hk
    · exact absurd h1 hk
    · exact absurd hk h2
  · obtain ⟨z, hz, hzg⟩ := Option.map_eq_some_iff.1 h2
    have := h.gs z (Array.mem_of_getElem? hz)
    omega
theorem TI.nil (B : Nat) : TI (fun _ => False) Rd Wr Act rel L B 1 #[] :=
  ⟨fun said => by rintro ⟨i, j, _, ⟨a, b, ha, _⟩, _⟩; simp [Trace.act?] at ha, fun x b _ i a ad ha => by simp [touchAt, Trace.act?] at ha, fun x ad _ i a ha => by simp [touchAt, Trace.act?] at ha, fun i a ad ha => by simp [touchAt, Trace.act?] at ha,
    fun i a r ha => by simp [touchAt, Trace.act?] at ha, fun i a ha => by simp [touchAt, Trace.act?] at ha, by simp, by simp⟩
end
end Go.Proofs.Ytgeflnjjppgooaa.Y
