/- Walks: Block. Printed by gen.py. -/
import Derived.Test.YtcimhmnbemgpoaaWWorst
import Derived.Test.YtcimhmnbemgpoaaBlock
import Derived.KernelRfl
namespace Go.Proofs.Ytcimhmnbemgpoaa
open Go.RowKit
set_option linter.unusedVariables false
set_option linter.unusedSimpArgs false
set_option maxRecDepth 20000

theorem sz22_Block : (Try.prog.info? 22).map (·.size) = some 1 := by kernel_rfl
theorem fb22_Block : flatB Try.prog 22 = true := by kernel_rfl
theorem sz23_Block : (Try.prog.info? 23).map (·.size) = some 1 := by kernel_rfl
theorem fb23_Block : flatB Try.prog 23 = true := by kernel_rfl
theorem elt27_Block : Elt Try.prog 27 [Value.float .f32 0] 4 := Elt.mk' (by kernel_rfl) (by decide)
theorem mixed_Block : Try.prog.follows .mixedOrders = true := by kernel_rfl
theorem sz27_Block : (Try.prog.info? 27).map (·.size) = some 1 := by kernel_rfl
theorem fb27_Block : flatB Try.prog 27 = true := by kernel_rfl
theorem known131_Block : Known Try.prog 131 := Known.mk' Try.func131 (by kernel_rfl)
theorem known130_Block : Known Try.prog 130 := Known.mk' Try.func130 (by kernel_rfl)
theorem known83_Block : Known Try.prog 83 := Known.mk' Try.func83 (by kernel_rfl)
theorem known85_Block : Known Try.prog 85 := Known.mk' Try.func85 (by kernel_rfl)
theorem known84_Block : Known Try.prog 84 := Known.mk' Try.func84 (by kernel_rfl)
theorem known86_Block : Known Try.prog 86 := Known.mk' Try.func86 (by kernel_rfl)
theorem sz30_Block : (Try.prog.info? 30).map (·.size) = some 3 := by kernel_rfl
theorem known87_Block : Known Try.prog 87 := Known.mk' Try.func87 (by kernel_rfl)
theorem known88_Block : Known Try.prog 88 := Known.mk' Try.func88 (by kernel_rfl)
theorem known77_Block : Known Try.prog 77 := Known.mk' Try.func77 (by kernel_rfl)
theorem known89_Block : Known Try.prog 89 := Known.mk' Try.func89 (by kernel_rfl)
theorem sz25_Block : (Try.prog.info? 25).map (·.size) = some 3 := by kernel_rfl
theorem known15_Block : Known Try.prog 15 := Known.mk' Try.func15 (by kernel_rfl)
theorem known17_Block : Known Try.prog 17 := Known.mk' Try.func17 (by kernel_rfl)
theorem known31_Block : Known Try.prog 31 := Known.mk' Try.func31 (by kernel_rfl)
theorem zero30_Block : (Try.prog.info? 30).bind (·.zero) = some (Value.agg #[Value.slice none 0 0, Value.slice none 0 0, Value.slice none 0 0]) := by kernel_rfl
theorem known32_Block : Known Try.prog 32 := Known.mk' Try.func32 (by kernel_rfl)
theorem known22_Block : Known Try.prog 22 := Known.mk' Try.func22 (by kernel_rfl)
theorem known21_Block : Known Try.prog 21 := Known.mk' Try.func21 (by kernel_rfl)
theorem known33_Block : Known Try.prog 33 := Known.mk' Try.func33 (by kernel_rfl)
theorem known29_Block : Known Try.prog 29 := Known.mk' Try.func29 (by kernel_rfl)
theorem known30_Block : Known Try.prog 30 := Known.mk' Try.func30 (by kernel_rfl)

theorem c_l00In {w : World} {n lo hi : Int} : Pure Try.prog 84 [.int .i64 n, .int .i64 lo, .int .i64 hi] w (.bool (decide (lo ≤ n ∧ n ≤ hi))) := by
  refine Pure.enter Try.func84 rfl Try.ntmps84 (Nat.le_of_ble_eq_true rfl) ?_
  refine V.seq ?_
  refine V.region ?_
  refine VL.r (.inl rfl) rfl (by decide) (yr_assign (u := .bool false) rfl rfl) ?_
  refine VL.nil ?_
  refine VE.then_wp ?_
  refine V.seq ?_
  refine V.region ?_
  refine VL.r (.inl rfl) rfl (by decide) (yr_move rfl rfl) ?_
  refine VL.r (.inl rfl) rfl (by decide) (yr_move rfl rfl) ?_
  refine VL.r (.inl rfl) rfl (by decide) (yr_icmp rfl (.inr (.inr (.inr (.inr (.inr rfl))))) rfl rfl) ?_
  refine VL.r (.inl rfl) rfl (by decide) (yr_move rfl rfl) ?_
  refine VX.split 10 _ rfl (fun h1 => ?_) (fun h1 => ?_)
  · skip
    replace h1 := ic_geq h1
    refine VL.r (.inr ⟨_, _, _, rfl, rfl, rfl⟩) rfl (by decide) (yr_move rfl rfl) ?_
    refine VL.r (.inr ⟨_, _, _, rfl, rfl, rfl⟩) rfl (by decide) (yr_move rfl rfl) ?_
    refine VL.r (.inr ⟨_, _, _, rfl, rfl, rfl⟩) rfl (by decide) (yr_icmp rfl (.inr (.inr (.inr (.inl rfl)))) rfl rfl) ?_
    refine VL.r (.inl rfl) rfl (by decide) (yr_pick_t rfl rfl rfl) ?_
    refine VL.r (.inl rfl) rfl (by decide) (yr_assign rfl rfl) ?_
    refine VL.nil ?_
    refine VE.then_wp ?_
    refine V.ret ?_
    refine ret1 rfl rfl (fun w1 hw => ?_)
    exact ⟨congrArg Value.bool (in_t (by assumption)), hw.below⟩
  · skip
    replace h1 := ic_geq' h1
    refine VL.no rfl rfl rfl rfl rfl (by decide) ?_
    refine VL.no rfl rfl rfl rfl rfl (by decide) ?_
    refine VL.no rfl rfl rfl rfl rfl (by decide) ?_
    refine VL.r (.inl rfl) rfl (by decide) (yr_pick_f (u := .bool false) rfl rfl rfl) ?_
    refine VL.r (.inl rfl) rfl (by decide) (yr_assign rfl rfl) ?_
    refine VL.nil ?_
    refine VE.then_wp ?_
    refine V.ret ?_
    refine ret1 rfl rfl (fun w1 hw => ?_)
    exact ⟨congrArg Value.bool (in_f (by assumption)), hw.below⟩

theorem c_within {w : World} {n lo hi : Int} : Pure Try.prog 77 [.int .i64 n, .int .i64 lo, .int .i64 hi] w (.bool (decide (lo ≤ n ∧ n ≤ hi))) := by
  refine Pure.enter Try.func77 rfl Try.ntmps77 (Nat.le_of_ble_eq_true rfl) ?_
  refine V.seq ?_
  refine V.region ?_
  refine VL.r (.inl rfl) rfl (by decide) (yr_assign (u := .bool false) rfl rfl) ?_
  refine VL.nil ?_
  refine VE.then_wp ?_
  refine V.seq ?_
  refine V.region ?_
  refine VL.r (.inl rfl) rfl (by decide) (yr_move rfl rfl) ?_
  refine VL.r (.inl rfl) rfl (by decide) (yr_move rfl rfl) ?_
  refine VL.r (.inl rfl) rfl (by decide) (yr_icmp rfl (.inr (.inr (.inr (.inr (.inr rfl))))) rfl rfl) ?_
  refine VL.r (.inl rfl) rfl (by decide) (yr_move rfl rfl) ?_
  refine VX.split 10 _ rfl (fun h1 => ?_) (fun h1 => ?_)
  · skip
    replace h1 := ic_geq h1
    refine VL.r (.inr ⟨_, _, _, rfl, rfl, rfl⟩) rfl (by decide) (yr_move rfl rfl) ?_
    refine VL.r (.inr ⟨_, _, _, rfl, rfl, rfl⟩) rfl (by decide) (yr_move rfl rfl) ?_
    refine VL.r (.inr ⟨_, _, _, rfl, rfl, rfl⟩) rfl (by decide) (yr_icmp rfl (.inr (.inr (.inr (.inl rfl)))) rfl rfl) ?_
    refine VL.r (.inl rfl) rfl (by decide) (yr_pick_t rfl rfl rfl) ?_
    refine VL.r (.inl rfl) rfl (by decide) (yr_assign rfl rfl) ?_
    refine VL.nil ?_
    refine VE.then_wp ?_
    refine V.ret ?_
    refine ret1 rfl rfl (fun w1 hw => ?_)
    exact ⟨congrArg Value.bool (in_t (by assumption)), hw.below⟩
  · skip
    replace h1 := ic_geq' h1
    refine VL.no rfl rfl rfl rfl rfl (by decide) ?_
    refine VL.no rfl rfl rfl rfl rfl (by decide) ?_
    refine VL.no rfl rfl rfl rfl rfl (by decide) ?_
    refine VL.r (.inl rfl) rfl (by decide) (yr_pick_f (u := .bool false) rfl rfl rfl) ?_
    refine VL.r (.inl rfl) rfl (by decide) (yr_assign rfl rfl) ?_
    refine VL.nil ?_
    refine VE.then_wp ?_
    refine V.ret ?_
    refine ret1 rfl rfl (fun w1 hw => ?_)
    exact ⟨congrArg Value.bool (in_f (by assumption)), hw.below⟩

theorem c_l00Min {w : World} {a b : Int} : Pure Try.prog 131 [.int .i64 a, .int .i64 b] w (.int .i64 (min a b)) := by
  refine Pure.enter Try.func131 rfl Try.ntmps131 (Nat.le_of_ble_eq_true rfl) ?_
  refine V.seq ?_
  refine V.region ?_
  refine VL.r (.inl rfl) rfl (by decide) (yr_assign (u := .int .i64 0) rfl rfl) ?_
  refine VL.nil ?_
  refine VE.then_wp ?_
  refine V.seq ?_
  refine V.seq ?_
  refine V.region ?_
  refine VL.r (.inl rfl) rfl (by decide) (yr_move rfl rfl) ?_
  refine VL.r (.inl rfl) rfl (by decide) (yr_move rfl rfl) ?_
  refine VL.r (.inl rfl) rfl (by decide) (yr_icmp rfl (.inr (.inr (.inl rfl))) rfl rfl) ?_
  refine VL.nil ?_
  refine VE.then_wp ?_
  refine V.cond rfl (fun h1 => ?_) (fun h1 => ?_)
  · skip
    replace h1 := ic_lss h1
    refine V.seq ?_
    refine V.region ?_
    refine VL.r (.inl rfl) rfl (by decide) (yr_move rfl rfl) ?_
    refine VL.r (.inl rfl) rfl (by decide) (yr_assign rfl rfl) ?_
    refine VL.nil ?_
    refine VE.then_wp ?_
    refine V.ret ?_
    refine VE.then_ret ?_
    refine ret1 rfl rfl (fun w1 hw => ?_)
    exact ⟨congrArg (Value.int .i64) (by omega), hw.below⟩
  · skip
    replace h1 := ic_lss' h1
    refine V.skip ?_
    refine VE.then_wp ?_
    refine V.seq ?_
    refine V.region ?_
    refine VL.r (.inl rfl) rfl (by decide) (yr_move rfl rfl) ?_
    refine VL.r (.inl rfl) rfl (by decide) (yr_assign rfl rfl) ?_
    refine VL.nil ?_
    refine VE.then_wp ?_
    refine V.ret ?_
    refine ret1 rfl rfl (fun w1 hw => ?_)
    exact ⟨congrArg (Value.int .i64) (by omega), hw.below⟩

theorem c_l07Blocks {w : World} {q : Option Addr} {a a1 a2 : Option Addr} {c c1 c2 : Nat} {xss : List (List Nat)} {ws gs : List Nat} (hQ : Cl w q [.slice a xss.length c, .slice a1 ws.length c1, .slice a2 gs.length c2]) (hxl : xss.length ≤ 1048576) : Pure Try.prog 85 [.pointer (some (adr q 0))] w (.int .i64 ((blocksN xss.length : Nat) : Int)) := by
  refine Pure.enter Try.func85 rfl Try.ntmps85 (Nat.le_of_ble_eq_true rfl) ?_
  refine V.seq ?_
  refine V.region ?_
  refine VL.r (.inl rfl) rfl (by decide) (yr_assign (u := .int .i64 0) rfl rfl) ?_
  refine VL.nil ?_
  refine VE.then_wp ?_
  refine V.seq ?_
  refine V.region ?_
  refine VL.r (.inl rfl) rfl (by decide) (yr_move rfl rfl) ?_
  refine VL.r (.inl rfl) rfl (by decide) (yr_nilCheck rfl rfl) ?_
  refine VL.r (.inl rfl) rfl (by decide) (yr_fieldAddr rfl Try.underlying30 rfl rfl sz22_Block (by decide) rfl) ?_
  refine VL.q (.inl rfl) rfl (by decide) (yq_load rfl fb22_Block rfl (by first | exact Sees.root (by assumption) | exact Sees.own (by repeat (first | exact List.mem_cons_self | exact List.mem_append_left _ (by assumption) | apply List.mem_cons_of_mem | apply List.mem_append_right)) | exact Sees.root (hR _ (by omega)) | exact Sees.own (RowsIn.mem (by repeat (first | exact RowsIn.here | exact RowsIn.last | apply RowsIn.there | apply RowsIn.thereS)) _ (by omega))) rfl) ?_
  refine VL.r (.inl rfl) rfl (by decide) (yr_len rfl Try.underlying22 rfl) ?_
  refine VL.r (.inl rfl) rfl (by decide) (yr_int rfl rfl rfl (.inl ⟨rfl, wrap_in (by omega)⟩)) ?_
  refine VL.r (.inl rfl) rfl (by decide) (yr_int rfl rfl rfl (.inr (.inl ⟨rfl, wrap_in (by omega)⟩))) ?_
  refine VL.r (.inl rfl) rfl (by decide) (yr_quo rfl rfl rfl (by omega) (wrap_quo (by omega))) ?_
  refine VL.r (.inl rfl) rfl (by decide) (yr_assign rfl rfl) ?_
  refine VL.nil ?_
  refine VE.then_wp ?_
  refine V.ret ?_
  refine ret1 rfl rfl (fun w1 hw => ?_)
  exact ⟨congrArg (Value.int .i64) (by unfold blocksN; rw [show ((xss.length : Int) + 8 - 1) = ((xss.length + 7 : Nat) : Int) by omega]; exact (Int.ofNat_tdiv _ _).symm), hw.below⟩

theorem c_blocks {w : World} {a a1 a2 : Option Addr} {c c1 c2 : Nat} {xss : List (List Nat)} {ws gs : List Nat} (hxl : xss.length ≤ 1048576) : Pure Try.prog 88 [.agg #[.slice a xss.length c, .slice a1 ws.length c1, .slice a2 gs.length c2]] w (.int .i64 ((blocksN xss.length : Nat) : Int)) := by
  refine Pure.enter Try.func88 rfl Try.ntmps88 (Nat.le_of_ble_eq_true rfl) ?_
  refine V.seq ?_
  refine V.region ?_
  refine VL.new1 (.inl rfl) rfl (by decide) (yn_box rfl rfl (.inr ⟨rfl, rfl⟩)) ?_
  intro b1
  refine VL.r (.inl rfl) rfl (by decide) (yr_assign (u := .int .i64 0) rfl rfl) ?_
  refine VL.nil ?_
  refine VE.then_wp ?_
  refine V.seq ?_
  refine V.region ?_
  refine VL.r (.inl rfl) rfl (by decide) (yr_fieldAddr rfl Try.underlying30 rfl rfl sz22_Block (by decide) rfl) ?_
  refine VL.q (.inl rfl) rfl (by decide) (yq_load rfl fb22_Block rfl (by first | exact Sees.root (by assumption) | exact Sees.own (by repeat (first | exact List.mem_cons_self | exact List.mem_append_left _ (by assumption) | apply List.mem_cons_of_mem | apply List.mem_append_right)) | exact Sees.root (hR _ (by omega)) | exact Sees.own (RowsIn.mem (by repeat (first | exact RowsIn.here | exact RowsIn.last | apply RowsIn.there | apply RowsIn.thereS)) _ (by omega))) rfl) ?_
  refine VL.r (.inl rfl) rfl (by decide) (yr_len rfl Try.underlying22 rfl) ?_
  refine VL.r (.inl rfl) rfl (by decide) (yr_int rfl rfl rfl (.inl ⟨rfl, wrap_in (by omega)⟩)) ?_
  refine VL.r (.inl rfl) rfl (by decide) (yr_int rfl rfl rfl (.inr (.inl ⟨rfl, wrap_in (by omega)⟩))) ?_
  refine VL.r (.inl rfl) rfl (by decide) (yr_quo rfl rfl rfl (by omega) (wrap_quo (by omega))) ?_
  refine VL.r (.inl rfl) rfl (by decide) (yr_assign rfl rfl) ?_
  refine VL.nil ?_
  refine VE.then_wp ?_
  refine V.ret ?_
  refine ret1 rfl rfl (fun w1 hw => ?_)
  exact ⟨congrArg (Value.int .i64) (by unfold blocksN; rw [show ((xss.length : Int) + 8 - 1) = ((xss.length + 7 : Nat) : Int) by omega]; exact (Int.ofNat_tdiv _ _).symm), hw.below⟩

theorem c_l07Block {w : World} {q : Option Addr} {a a1 a2 : Option Addr} {c c1 c2 : Nat} {f : Nat → Option Addr × Nat} {xss : List (List Nat)} {ws gs : List Nat} {fr cnt : Nat} {fi ci : Int} (hQ : Cl w q [.slice a xss.length c, .slice a1 ws.length c1, .slice a2 gs.length c2]) (hA : Cl w a (hd f xss)) (hR : Rws w f xss) (hW : Cl w a1 (fl ws)) (hG : Cl w a2 (fl gs)) (hsz : bulk xss + ws.length + gs.length ≤ 1048576) (hval : ValidP xss ws gs) (hfc : fr + cnt ≤ xss.length) (hfi : fi = (fr : Int)) (hci : ci = (cnt : Int)) : New Try.prog 130 [.pointer (some (adr q 0)), .int .i64 fi, .int .i64 ci] w (fun p : Nat × Nat => .tuple #[.slice (some ⟨p.1, 0, none⟩) ((xss.getD 0 []).length * (xss.getD 0 []).length) ((xss.getD 0 []).length * (xss.getD 0 []).length), .slice (some ⟨p.2, 0, none⟩) (xss.getD 0 []).length (xss.getD 0 []).length]) (fun p => [⟨some ⟨p.2, 0, none⟩, fl (blockB xss ws gs fr cnt (xss.getD 0 []).length), (xss.getD 0 []).length * 1, 27⟩, ⟨some ⟨p.1, 0, none⟩, fl (blockA xss gs fr cnt (xss.getD 0 []).length), ((xss.getD 0 []).length * (xss.getD 0 []).length) * 1, 27⟩]) := by
  subst hfi
  subst hci
  refine New.enter Try.func130 rfl Try.ntmps130 (Nat.le_of_ble_eq_true rfl) ?_
  have hr : ∀ i, i < xss.length → (xss.getD i []).length ≤ 1048576 := fun i hi => by have := bulk_row hi; omega
  have hxl : xss.length ≤ bulk xss := by unfold bulk; omega
  obtain ⟨v1, v2, v3, v4, v5, v6, v7, v8⟩ := hval
  have hN : ∀ i, i < xss.length → (xss.getD i []).length = (xss.getD 0 []).length := fun i hi => (v6 i hi).1
  have hnn : (xss.getD 0 []).length * (xss.getD 0 []).length ≤ 64 := Nat.mul_le_mul v8 v8
  have hix : ∀ {j k : Nat}, j < (xss.getD 0 []).length → k < (xss.getD 0 []).length → j * (xss.getD 0 []).length + k < (xss.getD 0 []).length * (xss.getD 0 []).length := idx_lt
  refine V.seq ?_
  refine V.region ?_
  refine VL.r (.inl rfl) rfl (by decide) (yr_assign (u := .slice none 0 0) rfl rfl) ?_
  refine VL.r (.inl rfl) rfl (by decide) (yr_assign (u := .slice none 0 0) rfl rfl) ?_
  refine VL.nil ?_
  refine VE.then_wp ?_
  refine V.seq ?_
  refine V.region ?_
  refine VL.r (.inl rfl) rfl (by decide) (yr_move rfl rfl) ?_
  refine VL.r (.inl rfl) rfl (by decide) (yr_nilCheck rfl rfl) ?_
  refine VL.r (.inl rfl) rfl (by decide) (yr_fieldAddr rfl Try.underlying30 rfl rfl sz22_Block (by decide) rfl) ?_
  refine VL.q (.inl rfl) rfl (by decide) (yq_load rfl fb22_Block rfl (by first | exact Sees.root (by assumption) | exact Sees.own (by repeat (first | exact List.mem_cons_self | exact List.mem_append_left _ (by assumption) | apply List.mem_cons_of_mem | apply List.mem_append_right)) | exact Sees.root (hR _ (by omega)) | exact Sees.own (RowsIn.mem (by repeat (first | exact RowsIn.here | exact RowsIn.last | apply RowsIn.there | apply RowsIn.thereS)) _ (by omega))) rfl) ?_
  refine VL.q (.inl rfl) rfl (by decide) (yq_idx (k := 0) rfl Try.underlying22 sz23_Block rfl rfl (by first | exact Sees.root (by assumption) | exact Sees.own (by repeat (first | exact List.mem_cons_self | exact List.mem_append_left _ (by assumption) | apply List.mem_cons_of_mem | apply List.mem_append_right)) | exact Sees.root (hR _ (by omega)) | exact Sees.own (RowsIn.mem (by repeat (first | exact RowsIn.here | exact RowsIn.last | apply RowsIn.there | apply RowsIn.thereS)) _ (by omega))) (by first | rfl | omega | (push_cast; rfl) | (push_cast; omega)) (by first | exact fl_length _ | exact hd_length _ _ | (rw [fl_length]; omega)) (by omega)) ?_
  refine VL.q (.inl rfl) rfl (by decide) (yq_loadH rfl fb23_Block rfl (by first | exact Sees.root (by assumption) | exact Sees.own (by repeat (first | exact List.mem_cons_self | exact List.mem_append_left _ (by assumption) | apply List.mem_cons_of_mem | apply List.mem_append_right)) | exact Sees.root (hR _ (by omega)) | exact Sees.own (RowsIn.mem (by repeat (first | exact RowsIn.here | exact RowsIn.last | apply RowsIn.there | apply RowsIn.thereS)) _ (by omega))) (by omega)) ?_
  refine VL.r (.inl rfl) rfl (by decide) (yr_len rfl Try.underlying23 rfl) ?_
  refine VL.r (.inl rfl) rfl (by decide) (yr_assign rfl rfl) ?_
  refine VL.nil ?_
  refine VE.then_wp ?_
  refine V.seq ?_
  refine V.region ?_
  refine VL.r (.inl rfl) rfl (by decide) (yr_move rfl rfl) ?_
  refine VL.r (.inl rfl) rfl (by decide) (yr_move rfl rfl) ?_
  refine VL.r (.inl rfl) rfl (by decide) (yr_mulN (xss.getD 0 []).length (xss.getD 0 []).length rfl rfl rfl (by omega) (by omega) (Nat.le_trans (mul_small (by omega) (by omega)) (by decide))) ?_
  refine VL.new1 (.inl rfl) rfl (by decide) (yn_makeSlicez 1 rfl rfl Try.underlying23 elt27_Block rfl rfl rfl (by omega) (by omega)) ?_
  intro b26
  refine VL.r (.inl rfl) rfl (by decide) (yr_assign rfl rfl) ?_
  refine VL.nil ?_
  refine VE.then_wp ?_
  refine V.seq ?_
  refine V.region ?_
  refine VL.r (.inl rfl) rfl (by decide) (yr_move rfl rfl) ?_
  refine VL.new1 (.inl rfl) rfl (by decide) (yn_makeSlicez 1 rfl rfl Try.underlying23 elt27_Block rfl rfl rfl (by omega) (by omega)) ?_
  intro b28
  refine VL.r (.inl rfl) rfl (by decide) (yr_assign rfl rfl) ?_
  refine VL.nil ?_
  refine VE.then_wp ?_
  refine V.seq ?_
  refine V.seq ?_
  refine V.region ?_
  refine VL.r (.inl rfl) rfl (by decide) (yr_move rfl rfl) ?_
  refine VL.r (.inl rfl) rfl (by decide) (yr_assign rfl rfl) ?_
  refine VL.nil ?_
  refine VE.then_wp ?_
  refine V.block ?_
  refine V.loopc (G := Nat × (List Nat) × (List Nat)) [(0, _), (1, _), (2, _), (8, _), (9, _), (10, _)] (fun ⟨i, A, B⟩ => i ≤ cnt ∧ A.length = (xss.getD 0 []).length * (xss.getD 0 []).length ∧ B.length = (xss.getD 0 []).length ∧ (∀ j k, j < (xss.getD 0 []).length → k < (xss.getD 0 []).length → A.getD (j * (xss.getD 0 []).length + k) 0 = blkA xss gs fr j k i) ∧ ∀ j, j < (xss.getD 0 []).length → B.getD j 0 = blkB xss ws gs fr j i) (fun ⟨i, A, B⟩ => [⟨some ⟨b28, 0, none⟩, fl B, (xss.getD 0 []).length * 1, 27⟩, ⟨some ⟨b26, 0, none⟩, fl A, ((xss.getD 0 []).length * (xss.getD 0 []).length) * 1, 27⟩]) (fun ⟨i, A, B⟩ => [(11, .int .i64 ((fr + i : Nat) : Int))]) (fun ⟨i, A, B⟩ => cnt - i) (0, List.replicate ((xss.getD 0 []).length * (xss.getD 0 []).length) 0, List.replicate (xss.getD 0 []).length 0) (.cons rfl (.cons rfl (.cons rfl (.cons rfl (.cons rfl (.cons rfl .nil)))))) (.cons (congrArg (fun i => some (Value.int .i64 i)) (by omega)) .nil) ?_ ?_ ?_
  · exact (fun w hw => by rw [fl_zeros, fl_zeros] at hw; exact hw)
  · exact (by refine ⟨by omega, by simp, by simp, fun j k _ _ => ?_, fun j _ => ?_⟩ <;> rw [replicate_getD] <;> rfl)
  rintro ⟨i, A, B⟩ ⟨hi, hAl, hBl, hA2, hB2⟩
  show V _ _ _ [⟨some ⟨b28, 0, none⟩, fl B, (xss.getD 0 []).length * 1, 27⟩, ⟨some ⟨b26, 0, none⟩, fl A, ((xss.getD 0 []).length * (xss.getD 0 []).length) * 1, 27⟩] ([(11, .int .i64 ((fr + i : Nat) : Int))] ++ [(0, _), (1, _), (2, _), (8, _), (9, _), (10, _)]) _ _
  have hrl := fun h => hN (fr + i) h
  refine V.seq ?_
  refine V.seq ?_
  refine V.region ?_
  refine VL.r (.inl rfl) rfl (by decide) (yr_move rfl rfl) ?_
  refine VL.r (.inl rfl) rfl (by decide) (yr_move rfl rfl) ?_
  refine VL.r (.inl rfl) rfl (by decide) (yr_move rfl rfl) ?_
  refine VL.r (.inl rfl) rfl (by decide) (yr_int rfl rfl rfl (.inl ⟨rfl, wrap_in (by omega)⟩)) ?_
  refine VL.r (.inl rfl) rfl (by decide) (yr_icmp rfl (.inr (.inr (.inl rfl))) rfl rfl) ?_
  refine VL.nil ?_
  refine VE.then_wp ?_
  refine V.cond rfl (fun h1 => ?_) (fun h1 => ?_)
  · skip
    replace h1 := ic_lss h1
    refine V.skip ?_
    refine VE.then_wp ?_
    refine V.seq ?_
    refine V.block ?_
    refine V.seq ?_
    refine V.region ?_
    refine VL.r (.inl rfl) rfl (by decide) (yr_move rfl rfl) ?_
    refine VL.r (.inl rfl) rfl (by decide) (yr_nilCheck rfl rfl) ?_
    refine VL.r (.inl rfl) rfl (by decide) (yr_fieldAddr rfl Try.underlying30 rfl rfl sz22_Block (by decide) rfl) ?_
    refine VL.q (.inl rfl) rfl (by decide) (yq_load rfl fb22_Block rfl (by first | exact Sees.root (by assumption) | exact Sees.own (by repeat (first | exact List.mem_cons_self | exact List.mem_append_left _ (by assumption) | apply List.mem_cons_of_mem | apply List.mem_append_right)) | exact Sees.root (hR _ (by omega)) | exact Sees.own (RowsIn.mem (by repeat (first | exact RowsIn.here | exact RowsIn.last | apply RowsIn.there | apply RowsIn.thereS)) _ (by omega))) rfl) ?_
    refine VL.r (.inl rfl) rfl (by decide) (yr_move rfl rfl) ?_
    refine VL.q (.inl rfl) rfl (by decide) (yq_idx (k := (fr + i)) rfl Try.underlying22 sz23_Block rfl rfl (by first | exact Sees.root (by assumption) | exact Sees.own (by repeat (first | exact List.mem_cons_self | exact List.mem_append_left _ (by assumption) | apply List.mem_cons_of_mem | apply List.mem_append_right)) | exact Sees.root (hR _ (by omega)) | exact Sees.own (RowsIn.mem (by repeat (first | exact RowsIn.here | exact RowsIn.last | apply RowsIn.there | apply RowsIn.thereS)) _ (by omega))) (by first | rfl | omega | (push_cast; rfl) | (push_cast; omega)) (by first | exact fl_length _ | exact hd_length _ _ | (rw [fl_length]; omega)) (by omega)) ?_
    refine VL.q (.inl rfl) rfl (by decide) (yq_loadH rfl fb23_Block rfl (by first | exact Sees.root (by assumption) | exact Sees.own (by repeat (first | exact List.mem_cons_self | exact List.mem_append_left _ (by assumption) | apply List.mem_cons_of_mem | apply List.mem_append_right)) | exact Sees.root (hR _ (by omega)) | exact Sees.own (RowsIn.mem (by repeat (first | exact RowsIn.here | exact RowsIn.last | apply RowsIn.there | apply RowsIn.thereS)) _ (by omega))) (by omega)) ?_
    refine VL.r (.inl rfl) rfl (by decide) (yr_assign rfl rfl) ?_
    refine VL.nil ?_
    refine VE.then_wp ?_
    refine V.seq ?_
    refine V.region ?_
    refine VL.r (.inl rfl) rfl (by decide) (yr_assign (u := .int .i64 0) rfl rfl) ?_
    refine VL.nil ?_
    refine VE.then_wp ?_
    refine V.block ?_
    refine V.loopc (G := Nat × (List Nat) × (List Nat)) [(0, _), (1, _), (2, _), (8, _), (9, _), (10, _), (11, _), (12, _)] (fun ⟨j, A1, B1⟩ => j ≤ (xss.getD 0 []).length ∧ A1.length = (xss.getD 0 []).length * (xss.getD 0 []).length ∧ B1.length = (xss.getD 0 []).length ∧ (∀ j1 k1, j1 < (xss.getD 0 []).length → k1 < (xss.getD 0 []).length → A1.getD (j1 * (xss.getD 0 []).length + k1) 0 = blkA xss gs fr j1 k1 (if j1 < j then i + 1 else i)) ∧ ∀ j1, j1 < (xss.getD 0 []).length → B1.getD j1 0 = blkB xss ws gs fr j1 (if j1 < j then i + 1 else i)) (fun ⟨j, A1, B1⟩ => [⟨some ⟨b28, 0, none⟩, fl B1, (xss.getD 0 []).length * 1, 27⟩, ⟨some ⟨b26, 0, none⟩, fl A1, ((xss.getD 0 []).length * (xss.getD 0 []).length) * 1, 27⟩]) (fun ⟨j, A1, B1⟩ => [(13, .int .i64 (j : Int))]) (fun ⟨j, A1, B1⟩ => (xss.getD 0 []).length - j) (0, A, B) (.cons rfl (.cons rfl (.cons rfl (.cons rfl (.cons rfl (.cons rfl (.cons rfl (.cons rfl .nil)))))))) (.cons rfl .nil) ?_ ?_ ?_
    · exact (fun w hw => hw)
    · exact (by exact ⟨by omega, hAl, hBl, fun j1 k1 h1 h2 => by rw [hA2 j1 k1 h1 h2, if_neg (by omega)], fun j1 h1 => by rw [hB2 j1 h1, if_neg (by omega)]⟩)
    rintro ⟨j, A1, B1⟩ ⟨hj, hA1l, hB1l, hA3, hB3⟩
    show V _ _ _ [⟨some ⟨b28, 0, none⟩, fl B1, (xss.getD 0 []).length * 1, 27⟩, ⟨some ⟨b26, 0, none⟩, fl A1, ((xss.getD 0 []).length * (xss.getD 0 []).length) * 1, 27⟩] ([(13, .int .i64 (j : Int))] ++ [(0, _), (1, _), (2, _), (8, _), (9, _), (10, _), (11, _), (12, _)]) _ _
    have hixj := fun (h : j < (xss.getD 0 []).length) (k : Nat) (hk : k < (xss.getD 0 []).length) => hix h hk
    refine V.seq ?_
    refine V.seq ?_
    refine V.region ?_
    refine VL.r (.inl rfl) rfl (by decide) (yr_move rfl rfl) ?_
    refine VL.r (.inl rfl) rfl (by decide) (yr_move rfl rfl) ?_
    refine VL.r (.inl rfl) rfl (by decide) (yr_icmp rfl (.inr (.inr (.inl rfl))) rfl rfl) ?_
    refine VL.nil ?_
    refine VE.then_wp ?_
    refine V.cond rfl (fun h2 => ?_) (fun h2 => ?_)
    · skip
      replace h2 := ic_lss h2
      refine V.skip ?_
      refine VE.then_wp ?_
      refine V.seq ?_
      refine V.block ?_
      refine V.seq ?_
      refine V.draw [(0, 0), (1, 0), (2, 0), (3, 0), (4, 0), (5, 0), (6, 0), (7, 0), (8, 0), (9, 0), (10, 0), (11, 0), (12, 0)] mixed_Block (by kernel_rfl) (by intro j o hj; simp at hj) ?_
      refine SW.r rfl (.inl rfl) rfl (by decide) (yr_move rfl rfl) ?_
      refine SW.r rfl (.inl rfl) rfl (by decide) (yr_nilCheck rfl rfl) ?_
      refine SW.r rfl (.inl rfl) rfl (by decide) (yr_fieldAddr rfl Try.underlying30 rfl rfl sz23_Block (by decide) rfl) ?_
      refine SW.q rfl (.inl rfl) rfl (by decide) (yq_load rfl fb23_Block rfl (by first | exact Sees.root (by assumption) | exact Sees.own (by repeat (first | exact List.mem_cons_self | exact List.mem_append_left _ (by assumption) | apply List.mem_cons_of_mem | apply List.mem_append_right)) | exact Sees.root (hR _ (by omega)) | exact Sees.own (RowsIn.mem (by repeat (first | exact RowsIn.here | exact RowsIn.last | apply RowsIn.there | apply RowsIn.thereS)) _ (by omega))) rfl) ?_
      refine SW.r rfl (.inl rfl) rfl (by decide) (yr_move rfl rfl) ?_
      refine SW.q rfl (.inl rfl) rfl (by decide) (yq_idx (k := (fr + i)) rfl Try.underlying23 sz27_Block rfl rfl (by first | exact Sees.root (by assumption) | exact Sees.own (by repeat (first | exact List.mem_cons_self | exact List.mem_append_left _ (by assumption) | apply List.mem_cons_of_mem | apply List.mem_append_right)) | exact Sees.root (hR _ (by omega)) | exact Sees.own (RowsIn.mem (by repeat (first | exact RowsIn.here | exact RowsIn.last | apply RowsIn.there | apply RowsIn.thereS)) _ (by omega))) (by first | rfl | omega | (push_cast; rfl) | (push_cast; omega)) (by first | exact fl_length _ | exact hd_length _ _ | (rw [fl_length]; omega)) (by omega)) ?_
      refine SW.q rfl (.inl rfl) rfl (by decide) (yq_loadF rfl fb27_Block rfl (by first | exact Sees.root (by assumption) | exact Sees.own (by repeat (first | exact List.mem_cons_self | exact List.mem_append_left _ (by assumption) | apply List.mem_cons_of_mem | apply List.mem_append_right)) | exact Sees.root (hR _ (by omega)) | exact Sees.own (RowsIn.mem (by repeat (first | exact RowsIn.here | exact RowsIn.last | apply RowsIn.there | apply RowsIn.thereS)) _ (by omega))) (by omega)) ?_
      refine SW.r rfl (.inl rfl) rfl (by decide) (yr_move rfl rfl) ?_
      refine SW.r rfl (.inl rfl) rfl (by decide) (yr_move rfl rfl) ?_
      refine SW.q rfl (.inl rfl) rfl (by decide) (yq_idx (k := j) rfl Try.underlying23 sz27_Block rfl rfl (by first | exact Sees.root (by assumption) | exact Sees.own (by repeat (first | exact List.mem_cons_self | exact List.mem_append_left _ (by assumption) | apply List.mem_cons_of_mem | apply List.mem_append_right)) | exact Sees.root (hR _ (by omega)) | exact Sees.own (RowsIn.mem (by repeat (first | exact RowsIn.here | exact RowsIn.last | apply RowsIn.there | apply RowsIn.thereS)) _ (by omega))) (by first | rfl | omega | (push_cast; rfl) | (push_cast; omega)) (by first | exact fl_length _ | exact hd_length _ _ | (rw [fl_length]; omega)) (by omega)) ?_
      refine SW.q rfl (.inl rfl) rfl (by decide) (yq_loadF rfl fb27_Block rfl (by first | exact Sees.root (by assumption) | exact Sees.own (by repeat (first | exact List.mem_cons_self | exact List.mem_append_left _ (by assumption) | apply List.mem_cons_of_mem | apply List.mem_append_right)) | exact Sees.root (hR _ (by omega)) | exact Sees.own (RowsIn.mem (by repeat (first | exact RowsIn.here | exact RowsIn.last | apply RowsIn.there | apply RowsIn.thereS)) _ (by omega))) (by omega)) ?_
      refine SW.r rfl (.inl rfl) rfl (by decide) (yr_float rfl (.inr (.inr (.inl rfl))) rfl rfl) ?_
      refine SW.r rfl (.inl rfl) rfl (by decide) (yr_assign rfl rfl) ?_
      refine SW.done ?_
      refine VE.then_wp ?_
      refine V.seq ?_
      refine V.seq ?_
      refine V.region ?_
      refine VL.r (.inl rfl) rfl (by decide) (yr_assign (u := .int .i64 0) rfl rfl) ?_
      refine VL.nil ?_
      refine VE.then_wp ?_
      refine V.block ?_
      refine V.loopc (G := Nat × (List Nat)) [(0, _), (1, _), (2, _), (8, _), (9, _), (10, _), (11, _), (12, _), (13, _), (14, _)] (fun ⟨k, A2⟩ => k ≤ (xss.getD 0 []).length ∧ A2.length = (xss.getD 0 []).length * (xss.getD 0 []).length ∧ ∀ j1 k1, j1 < (xss.getD 0 []).length → k1 < (xss.getD 0 []).length → A2.getD (j1 * (xss.getD 0 []).length + k1) 0 = blkA xss gs fr j1 k1 (if j1 < j ∨ (j1 = j ∧ k1 < k) then i + 1 else i)) (fun ⟨k, A2⟩ => [⟨some ⟨b28, 0, none⟩, fl B1, (xss.getD 0 []).length * 1, 27⟩, ⟨some ⟨b26, 0, none⟩, fl A2, ((xss.getD 0 []).length * (xss.getD 0 []).length) * 1, 27⟩]) (fun ⟨k, A2⟩ => [(15, .int .i64 (k : Int))]) (fun ⟨k, A2⟩ => (xss.getD 0 []).length - k) (0, A1) (.cons rfl (.cons rfl (.cons rfl (.cons rfl (.cons rfl (.cons rfl (.cons rfl (.cons rfl (.cons rfl (.cons rfl .nil)))))))))) (.cons rfl .nil) ?_ ?_ ?_
      · exact (fun w hw => hw)
      · exact (by exact ⟨by omega, hA1l, up_or hA3⟩)
      rintro ⟨k, A2⟩ ⟨hk, hA2l, hA4⟩
      show V _ _ _ [⟨some ⟨b28, 0, none⟩, fl B1, (xss.getD 0 []).length * 1, 27⟩, ⟨some ⟨b26, 0, none⟩, fl A2, ((xss.getD 0 []).length * (xss.getD 0 []).length) * 1, 27⟩] ([(15, .int .i64 (k : Int))] ++ [(0, _), (1, _), (2, _), (8, _), (9, _), (10, _), (11, _), (12, _), (13, _), (14, _)]) _ _
      have hixk := fun (h : j < (xss.getD 0 []).length) (hk : k < (xss.getD 0 []).length) => hix h hk
      refine V.seq ?_
      refine V.seq ?_
      refine V.region ?_
      refine VL.r (.inl rfl) rfl (by decide) (yr_move rfl rfl) ?_
      refine VL.r (.inl rfl) rfl (by decide) (yr_move rfl rfl) ?_
      refine VL.r (.inl rfl) rfl (by decide) (yr_icmp rfl (.inr (.inr (.inl rfl))) rfl rfl) ?_
      refine VL.nil ?_
      refine VE.then_wp ?_
      refine V.cond rfl (fun h3 => ?_) (fun h3 => ?_)
      · skip
        replace h3 := ic_lss h3
        refine V.skip ?_
        refine VE.then_wp ?_
        refine V.seq ?_
        refine V.block ?_
        refine V.draw [(0, 0), (1, 0), (2, 0), (3, 0), (4, 0), (5, 0), (6, 0), (7, 0), (8, 0), (9, 0), (10, 0), (11, 0), (12, 0), (13, 0), (14, 0), (15, 0), (16, 3)] mixed_Block (by kernel_rfl) (by intro j o hj; simp at hj) ?_
        refine SW.r rfl (.inl rfl) rfl (by decide) (yr_move rfl rfl) ?_
        refine SW.r rfl (.inl rfl) rfl (by decide) (yr_move rfl rfl) ?_
        refine SW.r rfl (.inl rfl) rfl (by decide) (yr_move rfl rfl) ?_
        refine SW.r rfl (.inl rfl) rfl (by decide) (yr_mulN j (xss.getD 0 []).length rfl rfl rfl (by omega) (by omega) (Nat.le_trans (mul_small (by omega) (by omega)) (by decide))) ?_
        refine SW.r rfl (.inl rfl) rfl (by decide) (yr_move rfl rfl) ?_
        refine SW.r rfl (.inl rfl) rfl (by decide) (yr_int rfl rfl rfl (.inl ⟨rfl, wrap_in (by omega)⟩)) ?_
        refine SW.q rfl (.inl rfl) rfl (by decide) (yq_idx (k := ((j * (xss.getD 0 []).length) + k)) rfl Try.underlying23 sz27_Block rfl rfl (by first | exact Sees.root (by assumption) | exact Sees.own (by repeat (first | exact List.mem_cons_self | exact List.mem_append_left _ (by assumption) | apply List.mem_cons_of_mem | apply List.mem_append_right)) | exact Sees.root (hR _ (by omega)) | exact Sees.own (RowsIn.mem (by repeat (first | exact RowsIn.here | exact RowsIn.last | apply RowsIn.there | apply RowsIn.thereS)) _ (by omega))) (by first | rfl | omega | (push_cast; rfl) | (push_cast; omega)) (by first | exact fl_length _ | exact hd_length _ _ | (rw [fl_length]; omega)) (by omega)) ?_
        refine SW.q rfl (.inl rfl) rfl (by decide) (yq_loadF rfl fb27_Block rfl (by first | exact Sees.root (by assumption) | exact Sees.own (by repeat (first | exact List.mem_cons_self | exact List.mem_append_left _ (by assumption) | apply List.mem_cons_of_mem | apply List.mem_append_right)) | exact Sees.root (hR _ (by omega)) | exact Sees.own (RowsIn.mem (by repeat (first | exact RowsIn.here | exact RowsIn.last | apply RowsIn.there | apply RowsIn.thereS)) _ (by omega))) (by omega)) ?_
        refine SW.r rfl (.inl rfl) rfl (by decide) (yr_move rfl rfl) ?_
        refine SW.r rfl (.inl rfl) rfl (by decide) (yr_move rfl rfl) ?_
        refine SW.r rfl (.inl rfl) rfl (by decide) (yr_move rfl rfl) ?_
        refine SW.q rfl (.inl rfl) rfl (by decide) (yq_idx (k := k) rfl Try.underlying23 sz27_Block rfl rfl (by first | exact Sees.root (by assumption) | exact Sees.own (by repeat (first | exact List.mem_cons_self | exact List.mem_append_left _ (by assumption) | apply List.mem_cons_of_mem | apply List.mem_append_right)) | exact Sees.root (hR _ (by omega)) | exact Sees.own (RowsIn.mem (by repeat (first | exact RowsIn.here | exact RowsIn.last | apply RowsIn.there | apply RowsIn.thereS)) _ (by omega))) (by first | rfl | omega | (push_cast; rfl) | (push_cast; omega)) (by first | exact fl_length _ | exact hd_length _ _ | (rw [fl_length]; omega)) (by omega)) ?_
        refine SW.q rfl (.inl rfl) rfl (by decide) (yq_loadF rfl fb27_Block rfl (by first | exact Sees.root (by assumption) | exact Sees.own (by repeat (first | exact List.mem_cons_self | exact List.mem_append_left _ (by assumption) | apply List.mem_cons_of_mem | apply List.mem_append_right)) | exact Sees.root (hR _ (by omega)) | exact Sees.own (RowsIn.mem (by repeat (first | exact RowsIn.here | exact RowsIn.last | apply RowsIn.there | apply RowsIn.thereS)) _ (by omega))) (by omega)) ?_
        refine SW.r rfl (.inl rfl) rfl (by decide) (yr_float rfl (.inr (.inr (.inl rfl))) rfl rfl) ?_
        refine SW.r rfl (.inl rfl) rfl (by decide) (yr_float rfl (.inl rfl) rfl rfl) ?_
        refine SW.q rfl (.inl rfl) rfl (by decide) (yq_idx (k := ((j * (xss.getD 0 []).length) + k)) rfl Try.underlying23 sz27_Block rfl rfl (by first | exact Sees.root (by assumption) | exact Sees.own (by repeat (first | exact List.mem_cons_self | exact List.mem_append_left _ (by assumption) | apply List.mem_cons_of_mem | apply List.mem_append_right)) | exact Sees.root (hR _ (by omega)) | exact Sees.own (RowsIn.mem (by repeat (first | exact RowsIn.here | exact RowsIn.last | apply RowsIn.there | apply RowsIn.thereS)) _ (by omega))) (by first | rfl | omega | (push_cast; rfl) | (push_cast; omega)) (by first | exact fl_length _ | exact hd_length _ _ | (rw [fl_length]; omega)) (by omega)) ?_
        refine SW.s rfl (.inl rfl) rfl (yc_store rfl sz27_Block rfl rfl (by repeat (first | exact UpdF.here | apply UpdF.there | apply UpdF.thereS)) (.inl ⟨rfl, rfl⟩) rfl (by rw [fl_length]; omega) (by decide) (fl_set _ _ _)) ?_
        rintro ⟨⟩
        refine SW.done ?_
        refine VE.block_normal ?_
        refine VE.then_wp ?_
        refine V.region ?_
        refine VL.r (.inl rfl) rfl (by decide) (yr_move rfl rfl) ?_
        refine VL.r (.inl rfl) rfl (by decide) (yr_int rfl rfl rfl (.inl ⟨rfl, wrap_in (by omega)⟩)) ?_
        refine VL.r (.inl rfl) rfl (by decide) (yr_assign rfl rfl) ?_
        refine VL.nil ?_
        refine VE.round (k + 1, A2.set (j * (xss.getD 0 []).length + k) (fop .add .f32 (A2.getD (j * (xss.getD 0 []).length + k) 0) (fop .mul .f32 (fop .mul .f32 (gs.getD (fr + i) 0) ((xss.getD (fr + i) []).getD j 0)) ((xss.getD (fr + i) []).getD k 0)))) ?_ ?_ ?_ ?_ ?_
        · exact (.cons rfl .nil)
        · exact (.cons rfl (.cons rfl (.cons rfl (.cons rfl (.cons rfl (.cons rfl (.cons rfl (.cons rfl (.cons rfl (.cons rfl .nil))))))))))
        · exact (fun w hw => hw)
        · exact ⟨by omega, by simp [hA2l], blkA_step hA2l (by omega) (by omega) hA4⟩
        · (try dsimp only); omega
      · skip
        replace h3 := ic_lss' h3
        refine V.exit ?_
        refine VE.then_exit ?_
        refine VE.then_exit ?_
        refine VE.block_here ?_
        refine VE.then_wp ?_
        refine V.draw [(0, 0), (1, 0), (2, 0), (3, 0), (4, 0), (5, 0), (6, 0), (7, 0), (8, 0), (9, 0), (10, 0), (11, 0), (12, 0), (13, 0), (14, 0), (15, 3)] mixed_Block (by kernel_rfl) (by intro j o hj; simp at hj) ?_
        refine SW.r rfl (.inl rfl) rfl (by decide) (yr_move rfl rfl) ?_
        refine SW.r rfl (.inl rfl) rfl (by decide) (yr_move rfl rfl) ?_
        refine SW.q rfl (.inl rfl) rfl (by decide) (yq_idx (k := j) rfl Try.underlying23 sz27_Block rfl rfl (by first | exact Sees.root (by assumption) | exact Sees.own (by repeat (first | exact List.mem_cons_self | exact List.mem_append_left _ (by assumption) | apply List.mem_cons_of_mem | apply List.mem_append_right)) | exact Sees.root (hR _ (by omega)) | exact Sees.own (RowsIn.mem (by repeat (first | exact RowsIn.here | exact RowsIn.last | apply RowsIn.there | apply RowsIn.thereS)) _ (by omega))) (by first | rfl | omega | (push_cast; rfl) | (push_cast; omega)) (by first | exact fl_length _ | exact hd_length _ _ | (rw [fl_length]; omega)) (by omega)) ?_
        refine SW.q rfl (.inl rfl) rfl (by decide) (yq_loadF rfl fb27_Block rfl (by first | exact Sees.root (by assumption) | exact Sees.own (by repeat (first | exact List.mem_cons_self | exact List.mem_append_left _ (by assumption) | apply List.mem_cons_of_mem | apply List.mem_append_right)) | exact Sees.root (hR _ (by omega)) | exact Sees.own (RowsIn.mem (by repeat (first | exact RowsIn.here | exact RowsIn.last | apply RowsIn.there | apply RowsIn.thereS)) _ (by omega))) (by omega)) ?_
        refine SW.r rfl (.inl rfl) rfl (by decide) (yr_move rfl rfl) ?_
        refine SW.r rfl (.inl rfl) rfl (by decide) (yr_move rfl rfl) ?_
        refine SW.r rfl (.inl rfl) rfl (by decide) (yr_nilCheck rfl rfl) ?_
        refine SW.r rfl (.inl rfl) rfl (by decide) (yr_fieldAddr rfl Try.underlying30 rfl rfl sz23_Block (by decide) rfl) ?_
        refine SW.q rfl (.inl rfl) rfl (by decide) (yq_load rfl fb23_Block rfl (by first | exact Sees.root (by assumption) | exact Sees.own (by repeat (first | exact List.mem_cons_self | exact List.mem_append_left _ (by assumption) | apply List.mem_cons_of_mem | apply List.mem_append_right)) | exact Sees.root (hR _ (by omega)) | exact Sees.own (RowsIn.mem (by repeat (first | exact RowsIn.here | exact RowsIn.last | apply RowsIn.there | apply RowsIn.thereS)) _ (by omega))) rfl) ?_
        refine SW.r rfl (.inl rfl) rfl (by decide) (yr_move rfl rfl) ?_
        refine SW.q rfl (.inl rfl) rfl (by decide) (yq_idx (k := (fr + i)) rfl Try.underlying23 sz27_Block rfl rfl (by first | exact Sees.root (by assumption) | exact Sees.own (by repeat (first | exact List.mem_cons_self | exact List.mem_append_left _ (by assumption) | apply List.mem_cons_of_mem | apply List.mem_append_right)) | exact Sees.root (hR _ (by omega)) | exact Sees.own (RowsIn.mem (by repeat (first | exact RowsIn.here | exact RowsIn.last | apply RowsIn.there | apply RowsIn.thereS)) _ (by omega))) (by first | rfl | omega | (push_cast; rfl) | (push_cast; omega)) (by first | exact fl_length _ | exact hd_length _ _ | (rw [fl_length]; omega)) (by omega)) ?_
        refine SW.q rfl (.inl rfl) rfl (by decide) (yq_loadF rfl fb27_Block rfl (by first | exact Sees.root (by assumption) | exact Sees.own (by repeat (first | exact List.mem_cons_self | exact List.mem_append_left _ (by assumption) | apply List.mem_cons_of_mem | apply List.mem_append_right)) | exact Sees.root (hR _ (by omega)) | exact Sees.own (RowsIn.mem (by repeat (first | exact RowsIn.here | exact RowsIn.last | apply RowsIn.there | apply RowsIn.thereS)) _ (by omega))) (by omega)) ?_
        refine SW.r rfl (.inl rfl) rfl (by decide) (yr_float rfl (.inr (.inr (.inl rfl))) rfl rfl) ?_
        refine SW.r rfl (.inl rfl) rfl (by decide) (yr_float rfl (.inl rfl) rfl rfl) ?_
        refine SW.q rfl (.inl rfl) rfl (by decide) (yq_idx (k := j) rfl Try.underlying23 sz27_Block rfl rfl (by first | exact Sees.root (by assumption) | exact Sees.own (by repeat (first | exact List.mem_cons_self | exact List.mem_append_left _ (by assumption) | apply List.mem_cons_of_mem | apply List.mem_append_right)) | exact Sees.root (hR _ (by omega)) | exact Sees.own (RowsIn.mem (by repeat (first | exact RowsIn.here | exact RowsIn.last | apply RowsIn.there | apply RowsIn.thereS)) _ (by omega))) (by first | rfl | omega | (push_cast; rfl) | (push_cast; omega)) (by first | exact fl_length _ | exact hd_length _ _ | (rw [fl_length]; omega)) (by omega)) ?_
        refine SW.s rfl (.inl rfl) rfl (yc_store rfl sz27_Block rfl rfl (by repeat (first | exact UpdF.here | apply UpdF.there | apply UpdF.thereS)) (.inl ⟨rfl, rfl⟩) rfl (by rw [fl_length]; omega) (by decide) (fl_set _ _ _)) ?_
        rintro ⟨⟩
        refine SW.done ?_
        refine VE.block_normal ?_
        refine VE.then_wp ?_
        refine V.region ?_
        refine VL.r (.inl rfl) rfl (by decide) (yr_move rfl rfl) ?_
        refine VL.r (.inl rfl) rfl (by decide) (yr_int rfl rfl rfl (.inl ⟨rfl, wrap_in (by omega)⟩)) ?_
        refine VL.r (.inl rfl) rfl (by decide) (yr_assign rfl rfl) ?_
        refine VL.nil ?_
        refine VE.round (j + 1, A2, B1.set j (fop .add .f32 (B1.getD j 0) (fop .mul .f32 (fop .mul .f32 (gs.getD (fr + i) 0) ((xss.getD (fr + i) []).getD j 0)) (ws.getD (fr + i) 0)))) ?_ ?_ ?_ ?_ ?_
        · exact (.cons rfl .nil)
        · exact (.cons rfl (.cons rfl (.cons rfl (.cons rfl (.cons rfl (.cons rfl (.cons rfl (.cons rfl .nil))))))))
        · exact (fun w hw => hw)
        · obtain rfl : k = (xss.getD 0 []).length := by omega
          exact ⟨by omega, hA2l, by simp [hB1l], or_up hA4, blkB_step hB1l (by omega) hB3⟩
        · (try dsimp only); omega
    · skip
      replace h2 := ic_lss' h2
      refine V.exit ?_
      refine VE.then_exit ?_
      refine VE.then_exit ?_
      refine VE.block_here ?_
      refine VE.block_normal ?_
      refine VE.then_wp ?_
      refine V.region ?_
      refine VL.r (.inl rfl) rfl (by decide) (yr_move rfl rfl) ?_
      refine VL.r (.inl rfl) rfl (by decide) (yr_int rfl rfl rfl (.inl ⟨rfl, wrap_in (by omega)⟩)) ?_
      refine VL.r (.inl rfl) rfl (by decide) (yr_assign rfl rfl) ?_
      refine VL.nil ?_
      refine VE.round (i + 1, A1, B1) ?_ ?_ ?_ ?_ ?_
      · exact (.cons (congrArg (fun i => some (Value.int .i64 i)) (by omega)) .nil)
      · exact (.cons rfl (.cons rfl (.cons rfl (.cons rfl (.cons rfl (.cons rfl .nil))))))
      · exact (fun w hw => hw)
      · obtain rfl : j = (xss.getD 0 []).length := by omega
        exact ⟨by omega, hA1l, hB1l, fun j1 k1 h1 h2 => by rw [hA3 j1 k1 h1 h2, if_pos h1], fun j1 h1 => by rw [hB3 j1 h1, if_pos h1]⟩
      · (try dsimp only); omega
  · skip
    replace h1 := ic_lss' h1
    refine V.exit ?_
    refine VE.then_exit ?_
    refine VE.then_exit ?_
    refine VE.block_here ?_
    refine VE.then_wp ?_
    refine V.seq ?_
    refine V.region ?_
    refine VL.r (.inl rfl) rfl (by decide) (yr_move rfl rfl) ?_
    refine VL.r (.inl rfl) rfl (by decide) (yr_move rfl rfl) ?_
    refine VL.r (.inl rfl) rfl (by decide) (yr_assign rfl rfl) ?_
    refine VL.r (.inl rfl) rfl (by decide) (yr_assign rfl rfl) ?_
    refine VL.nil ?_
    refine VE.then_wp ?_
    refine V.ret ?_
    refine ret2 rfl rfl rfl (by nofun) (by nofun) (fun w1 hw => ?_)
    obtain rfl : i = cnt := by omega
    have hAe := ext_square hAl hA2
    have hBe : B = blockB xss ws gs fr i (xss.getD 0 []).length := ext_getD (by rw [hBl, blockB_length]) fun t ht => by rw [hB2 t (by omega), blockB, getD_range _ _ (by omega)]
    rw [hAe, hBe] at hw
    exact ⟨(b26, b28), rfl, hw.outs (((List.nil_sublist _).cons_cons _).cons_cons _)⟩

theorem c_block {w : World} {a a1 a2 : Option Addr} {c c1 c2 : Nat} {f : Nat → Option Addr × Nat} {xss : List (List Nat)} {ws gs : List Nat} {blk fr cnt : Nat} {bi : Int} (hA : Cl w a (hd f xss)) (hR : Rws w f xss) (hW : Cl w a1 (fl ws)) (hG : Cl w a2 (fl gs)) (hsz : bulk xss + ws.length + gs.length ≤ 1048576) (hval : ValidP xss ws gs) (hbi : bi = (blk : Int)) (hfr : fr = blk * 8) (hcnt : cnt = min 8 (xss.length - blk * 8)) (hle : blk * 8 ≤ xss.length) : New Try.prog 89 [.agg #[.slice a xss.length c, .slice a1 ws.length c1, .slice a2 gs.length c2], .int .i64 bi] w (fun p : Nat × Nat => .tuple #[.slice (some ⟨p.1, 0, none⟩) ((xss.getD 0 []).length * (xss.getD 0 []).length) ((xss.getD 0 []).length * (xss.getD 0 []).length), .slice (some ⟨p.2, 0, none⟩) (xss.getD 0 []).length (xss.getD 0 []).length]) (fun p => [⟨some ⟨p.2, 0, none⟩, fl (blockB xss ws gs fr cnt (xss.getD 0 []).length), (xss.getD 0 []).length * 1, 27⟩, ⟨some ⟨p.1, 0, none⟩, fl (blockA xss gs fr cnt (xss.getD 0 []).length), ((xss.getD 0 []).length * (xss.getD 0 []).length) * 1, 27⟩]) := by
  subst hbi
  refine New.enter Try.func89 rfl Try.ntmps89 (Nat.le_of_ble_eq_true rfl) ?_
  have hr : ∀ i, i < xss.length → (xss.getD i []).length ≤ 1048576 := fun i hi => by have := bulk_row hi; omega
  have hxl : xss.length ≤ bulk xss := by unfold bulk; omega
  obtain ⟨v1, v2, v3, v4, v5, v6, v7, v8⟩ := hval
  have hN : ∀ i, i < xss.length → (xss.getD i []).length = (xss.getD 0 []).length := fun i hi => (v6 i hi).1
  have hnn : (xss.getD 0 []).length * (xss.getD 0 []).length ≤ 64 := Nat.mul_le_mul v8 v8
  have hix : ∀ {j k : Nat}, j < (xss.getD 0 []).length → k < (xss.getD 0 []).length → j * (xss.getD 0 []).length + k < (xss.getD 0 []).length * (xss.getD 0 []).length := idx_lt
  refine V.seq ?_
  refine V.region ?_
  refine VL.new1 (.inl rfl) rfl (by decide) (yn_box rfl rfl (.inr ⟨rfl, rfl⟩)) ?_
  intro b2
  refine VL.r (.inl rfl) rfl (by decide) (yr_assign (u := .slice none 0 0) rfl rfl) ?_
  refine VL.r (.inl rfl) rfl (by decide) (yr_assign (u := .slice none 0 0) rfl rfl) ?_
  refine VL.nil ?_
  refine VE.then_wp ?_
  refine V.seq ?_
  refine V.region ?_
  refine VL.r (.inl rfl) rfl (by decide) (yr_fieldAddr rfl Try.underlying30 rfl rfl sz22_Block (by decide) rfl) ?_
  refine VL.q (.inl rfl) rfl (by decide) (yq_load rfl fb22_Block rfl (by first | exact Sees.root (by assumption) | exact Sees.own (by repeat (first | exact List.mem_cons_self | exact List.mem_append_left _ (by assumption) | apply List.mem_cons_of_mem | apply List.mem_append_right)) | exact Sees.root (hR _ (by omega)) | exact Sees.own (RowsIn.mem (by repeat (first | exact RowsIn.here | exact RowsIn.last | apply RowsIn.there | apply RowsIn.thereS)) _ (by omega))) rfl) ?_
  refine VL.q (.inl rfl) rfl (by decide) (yq_idx (k := 0) rfl Try.underlying22 sz23_Block rfl rfl (by first | exact Sees.root (by assumption) | exact Sees.own (by repeat (first | exact List.mem_cons_self | exact List.mem_append_left _ (by assumption) | apply List.mem_cons_of_mem | apply List.mem_append_right)) | exact Sees.root (hR _ (by omega)) | exact Sees.own (RowsIn.mem (by repeat (first | exact RowsIn.here | exact RowsIn.last | apply RowsIn.there | apply RowsIn.thereS)) _ (by omega))) (by first | rfl | omega | (push_cast; rfl) | (push_cast; omega)) (by first | exact fl_length _ | exact hd_length _ _ | (rw [fl_length]; omega)) (by omega)) ?_
  refine VL.q (.inl rfl) rfl (by decide) (yq_loadH rfl fb23_Block rfl (by first | exact Sees.root (by assumption) | exact Sees.own (by repeat (first | exact List.mem_cons_self | exact List.mem_append_left _ (by assumption) | apply List.mem_cons_of_mem | apply List.mem_append_right)) | exact Sees.root (hR _ (by omega)) | exact Sees.own (RowsIn.mem (by repeat (first | exact RowsIn.here | exact RowsIn.last | apply RowsIn.there | apply RowsIn.thereS)) _ (by omega))) (by omega)) ?_
  refine VL.r (.inl rfl) rfl (by decide) (yr_len rfl Try.underlying23 rfl) ?_
  refine VL.r (.inl rfl) rfl (by decide) (yr_assign rfl rfl) ?_
  refine VL.nil ?_
  refine VE.then_wp ?_
  refine V.seq ?_
  refine Dr.V.drawR [(0, 5), (1, 5), (2, 5), (4, 5), (3, 2), (6, 5), (5, 2), (7, 5)] [(3, ((fun b => .slice (some ⟨b, 0, none⟩) ((xss.getD 0 []).length * (xss.getD 0 []).length) ((xss.getD 0 []).length * (xss.getD 0 []).length)), (fun b => ⟨some ⟨b, 0, none⟩, cycle [Value.float .f32 0] ((xss.getD 0 []).length * (xss.getD 0 []).length), ((xss.getD 0 []).length * (xss.getD 0 []).length) * 1, 27⟩))), (5, ((fun b => .slice (some ⟨b, 0, none⟩) (xss.getD 0 []).length (xss.getD 0 []).length), (fun b => ⟨some ⟨b, 0, none⟩, cycle [Value.float .f32 0] (xss.getD 0 []).length, (xss.getD 0 []).length * 1, 27⟩)))] [] _ mixed_Block (by kernel_rfl) (fun w hw => hw) ?_
  refine Dr.SW.r rfl (.inl rfl) rfl (by decide) (yr_move rfl rfl) ?_
  refine Dr.SW.r rfl (.inl rfl) rfl (by decide) (yr_move rfl rfl) ?_
  refine Dr.SW.r rfl (.inl rfl) rfl (by decide) (yr_mulN (xss.getD 0 []).length (xss.getD 0 []).length rfl rfl rfl (by omega) (by omega) (Nat.le_trans (mul_small (by omega) (by omega)) (by decide))) ?_
  refine Dr.SW.r rfl (.inl rfl) rfl (by decide) (yr_move rfl rfl) ?_
  refine Dr.SW.a rfl rfl rfl (by decide) rfl (fun w0 => (yn_makeSlicez 1 rfl rfl Try.underlying23 elt27_Block rfl rfl rfl (by omega) (by omega))) ?_
  intro b24
  refine Dr.SW.r rfl (.inl rfl) rfl (by decide) (yr_assign rfl rfl) ?_
  refine Dr.SW.a rfl rfl rfl (by decide) rfl (fun w0 => (yn_makeSlicez 1 rfl rfl Try.underlying23 elt27_Block rfl rfl rfl (by omega) (by omega))) ?_
  intro b26
  refine Dr.SW.r rfl (.inl rfl) rfl (by decide) (yr_assign rfl rfl) ?_
  refine Dr.SW.done ?_
  refine Dr.eqO (by simp only [List.append_nil, List.append_assoc, List.cons_append, List.nil_append] <;> rfl) ?_
  refine VE.then_wp ?_
  refine V.seq ?_
  refine V.seq ?_
  refine V.region ?_
  refine VL.r (.inl rfl) rfl (by decide) (yr_move rfl rfl) ?_
  refine VL.r (.inl rfl) rfl (by decide) (yr_mulN blk 8 rfl rfl rfl (by omega) (by omega) (Nat.le_trans (mul_small (by omega) (by omega)) (by decide))) ?_
  refine VL.r (.inl rfl) rfl (by decide) (yr_assign rfl rfl) ?_
  refine VL.nil ?_
  refine VE.then_wp ?_
  refine V.block ?_
  refine V.loopc (G := Nat × (List Nat) × (List Nat)) [(1, _), (2, _), (6, _), (7, _), (8, _)] (fun ⟨i, A, B⟩ => i ≤ cnt ∧ A.length = (xss.getD 0 []).length * (xss.getD 0 []).length ∧ B.length = (xss.getD 0 []).length ∧ (∀ j k, j < (xss.getD 0 []).length → k < (xss.getD 0 []).length → A.getD (j * (xss.getD 0 []).length + k) 0 = blkA xss gs fr j k i) ∧ ∀ j, j < (xss.getD 0 []).length → B.getD j 0 = blkB xss ws gs fr j i) (fun ⟨i, A, B⟩ => [⟨some ⟨b26, 0, none⟩, fl B, (xss.getD 0 []).length * 1, 27⟩, ⟨some ⟨b24, 0, none⟩, fl A, ((xss.getD 0 []).length * (xss.getD 0 []).length) * 1, 27⟩, ⟨some ⟨b2, 0, none⟩, [.slice a xss.length c, .slice a1 ws.length c1, .slice a2 gs.length c2], 3, 30⟩]) (fun ⟨i, A, B⟩ => [(9, .int .i64 ((fr + i : Nat) : Int))]) (fun ⟨i, A, B⟩ => cnt - i) (0, List.replicate ((xss.getD 0 []).length * (xss.getD 0 []).length) 0, List.replicate (xss.getD 0 []).length 0) (.cons rfl (.cons rfl (.cons rfl (.cons rfl (.cons rfl .nil))))) (.cons (congrArg (fun i => some (Value.int .i64 i)) (by omega)) .nil) ?_ ?_ ?_
  · exact (fun w hw => by rw [fl_zeros, fl_zeros] at hw; exact hw)
  · exact (by refine ⟨by omega, by simp, by simp, fun j k _ _ => ?_, fun j _ => ?_⟩ <;> rw [replicate_getD] <;> rfl)
  rintro ⟨i, A, B⟩ ⟨hi, hAl, hBl, hA2, hB2⟩
  show V _ _ _ [⟨some ⟨b26, 0, none⟩, fl B, (xss.getD 0 []).length * 1, 27⟩, ⟨some ⟨b24, 0, none⟩, fl A, ((xss.getD 0 []).length * (xss.getD 0 []).length) * 1, 27⟩, ⟨some ⟨b2, 0, none⟩, [.slice a xss.length c, .slice a1 ws.length c1, .slice a2 gs.length c2], 3, 30⟩] ([(9, .int .i64 ((fr + i : Nat) : Int))] ++ [(1, _), (2, _), (6, _), (7, _), (8, _)]) _ _
  have hrl := fun h => hN (fr + i) h
  refine V.seq ?_
  refine V.seq ?_
  refine V.region ?_
  refine VL.r (.inl rfl) rfl (by decide) (yr_move rfl rfl) ?_
  refine VL.r (.inl rfl) rfl (by decide) (yr_move rfl rfl) ?_
  refine VL.r (.inl rfl) rfl (by decide) (yr_int rfl rfl rfl (.inl ⟨rfl, wrap_in (by omega)⟩)) ?_
  refine VL.r (.inl rfl) rfl (by decide) (yr_mulN (blk + 1) 8 rfl rfl rfl (by omega) (by omega) (Nat.le_trans (mul_small (by omega) (by omega)) (by decide))) ?_
  refine VL.r (.inl rfl) rfl (by decide) (yr_fieldAddr rfl Try.underlying30 rfl rfl sz22_Block (by decide) rfl) ?_
  refine VL.q (.inl rfl) rfl (by decide) (yq_load rfl fb22_Block rfl (by first | exact Sees.root (by assumption) | exact Sees.own (by repeat (first | exact List.mem_cons_self | exact List.mem_append_left _ (by assumption) | apply List.mem_cons_of_mem | apply List.mem_append_right)) | exact Sees.root (hR _ (by omega)) | exact Sees.own (RowsIn.mem (by repeat (first | exact RowsIn.here | exact RowsIn.last | apply RowsIn.there | apply RowsIn.thereS)) _ (by omega))) rfl) ?_
  refine VL.r (.inl rfl) rfl (by decide) (yr_len rfl Try.underlying22 rfl) ?_
  refine VL.r (.inl rfl) rfl (by decide) (yr_minI rfl rfl rfl) ?_
  refine VL.r (.inl rfl) rfl (by decide) (yr_icmp rfl (.inr (.inr (.inl rfl))) rfl rfl) ?_
  refine VL.nil ?_
  refine VE.then_wp ?_
  refine V.cond rfl (fun h1 => ?_) (fun h1 => ?_)
  · skip
    replace h1 := ic_lss h1
    refine V.skip ?_
    refine VE.then_wp ?_
    refine V.seq ?_
    refine V.block ?_
    refine V.seq ?_
    refine V.region ?_
    refine VL.r (.inl rfl) rfl (by decide) (yr_fieldAddr rfl Try.underlying30 rfl rfl sz22_Block (by decide) rfl) ?_
    refine VL.q (.inl rfl) rfl (by decide) (yq_load rfl fb22_Block rfl (by first | exact Sees.root (by assumption) | exact Sees.own (by repeat (first | exact List.mem_cons_self | exact List.mem_append_left _ (by assumption) | apply List.mem_cons_of_mem | apply List.mem_append_right)) | exact Sees.root (hR _ (by omega)) | exact Sees.own (RowsIn.mem (by repeat (first | exact RowsIn.here | exact RowsIn.last | apply RowsIn.there | apply RowsIn.thereS)) _ (by omega))) rfl) ?_
    refine VL.r (.inl rfl) rfl (by decide) (yr_move rfl rfl) ?_
    refine VL.q (.inl rfl) rfl (by decide) (yq_idx (k := (fr + i)) rfl Try.underlying22 sz23_Block rfl rfl (by first | exact Sees.root (by assumption) | exact Sees.own (by repeat (first | exact List.mem_cons_self | exact List.mem_append_left _ (by assumption) | apply List.mem_cons_of_mem | apply List.mem_append_right)) | exact Sees.root (hR _ (by omega)) | exact Sees.own (RowsIn.mem (by repeat (first | exact RowsIn.here | exact RowsIn.last | apply RowsIn.there | apply RowsIn.thereS)) _ (by omega))) (by first | rfl | omega | (push_cast; rfl) | (push_cast; omega)) (by first | exact fl_length _ | exact hd_length _ _ | (rw [fl_length]; omega)) (by omega)) ?_
    refine VL.q (.inl rfl) rfl (by decide) (yq_loadH rfl fb23_Block rfl (by first | exact Sees.root (by assumption) | exact Sees.own (by repeat (first | exact List.mem_cons_self | exact List.mem_append_left _ (by assumption) | apply List.mem_cons_of_mem | apply List.mem_append_right)) | exact Sees.root (hR _ (by omega)) | exact Sees.own (RowsIn.mem (by repeat (first | exact RowsIn.here | exact RowsIn.last | apply RowsIn.there | apply RowsIn.thereS)) _ (by omega))) (by omega)) ?_
    refine VL.r (.inl rfl) rfl (by decide) (yr_assign rfl rfl) ?_
    refine VL.nil ?_
    refine VE.then_wp ?_
    refine V.seq ?_
    refine V.region ?_
    refine VL.r (.inl rfl) rfl (by decide) (yr_move rfl rfl) ?_
    refine VL.r (.inl rfl) rfl (by decide) (yr_len rfl Try.underlying23 rfl) ?_
    refine VL.r (.inl rfl) rfl (by decide) (yr_move (u := .int .i64 0) rfl rfl) ?_
    refine VL.nil ?_
    refine VE.then_wp ?_
    refine V.block ?_
    refine V.loopc (G := Nat × (List Nat) × (List Nat)) [(1, _), (2, _), (6, _), (7, _), (8, _), (9, _), (10, _), (45, _), (46, _)] (fun ⟨j, A1, B1⟩ => j ≤ (xss.getD 0 []).length ∧ A1.length = (xss.getD 0 []).length * (xss.getD 0 []).length ∧ B1.length = (xss.getD 0 []).length ∧ (∀ j1 k1, j1 < (xss.getD 0 []).length → k1 < (xss.getD 0 []).length → A1.getD (j1 * (xss.getD 0 []).length + k1) 0 = blkA xss gs fr j1 k1 (if j1 < j then i + 1 else i)) ∧ ∀ j1, j1 < (xss.getD 0 []).length → B1.getD j1 0 = blkB xss ws gs fr j1 (if j1 < j then i + 1 else i)) (fun ⟨j, A1, B1⟩ => [⟨some ⟨b26, 0, none⟩, fl B1, (xss.getD 0 []).length * 1, 27⟩, ⟨some ⟨b24, 0, none⟩, fl A1, ((xss.getD 0 []).length * (xss.getD 0 []).length) * 1, 27⟩, ⟨some ⟨b2, 0, none⟩, [.slice a xss.length c, .slice a1 ws.length c1, .slice a2 gs.length c2], 3, 30⟩]) (fun ⟨j, A1, B1⟩ => [(47, .int .i64 (j : Int))]) (fun ⟨j, A1, B1⟩ => (xss.getD 0 []).length - j) (0, A, B) (.cons rfl (.cons rfl (.cons rfl (.cons rfl (.cons rfl (.cons rfl (.cons rfl (.cons rfl (.cons rfl .nil))))))))) (.cons rfl .nil) ?_ ?_ ?_
    · exact (fun w hw => hw)
    · exact (by exact ⟨by omega, hAl, hBl, fun j1 k1 h1 h2 => by rw [hA2 j1 k1 h1 h2, if_neg (by omega)], fun j1 h1 => by rw [hB2 j1 h1, if_neg (by omega)]⟩)
    rintro ⟨j, A1, B1⟩ ⟨hj, hA1l, hB1l, hA3, hB3⟩
    show V _ _ _ [⟨some ⟨b26, 0, none⟩, fl B1, (xss.getD 0 []).length * 1, 27⟩, ⟨some ⟨b24, 0, none⟩, fl A1, ((xss.getD 0 []).length * (xss.getD 0 []).length) * 1, 27⟩, ⟨some ⟨b2, 0, none⟩, [.slice a xss.length c, .slice a1 ws.length c1, .slice a2 gs.length c2], 3, 30⟩] ([(47, .int .i64 (j : Int))] ++ [(1, _), (2, _), (6, _), (7, _), (8, _), (9, _), (10, _), (45, _), (46, _)]) _ _
    have hixj := fun (h : j < (xss.getD 0 []).length) (k : Nat) (hk : k < (xss.getD 0 []).length) => hix h hk
    refine V.seq ?_
    refine V.region ?_
    refine VL.r (.inl rfl) rfl (by decide) (yr_icmp rfl (.inr (.inr (.inl rfl))) rfl rfl) ?_
    refine VL.nil ?_
    refine VE.then_wp ?_
    refine V.seq ?_
    refine V.cond rfl (fun h2 => ?_) (fun h2 => ?_)
    · skip
      replace h2 := ic_lss h2
      refine V.skip ?_
      refine VE.then_wp ?_
      refine V.seq ?_
      refine V.block ?_
      refine V.seq ?_
      refine V.region ?_
      refine VL.r (.inl rfl) rfl (by decide) (yr_move rfl rfl) ?_
      refine VL.q (.inl rfl) rfl (by decide) (yq_idx (k := j) rfl Try.underlying23 sz27_Block rfl rfl (by first | exact Sees.root (by assumption) | exact Sees.own (by repeat (first | exact List.mem_cons_self | exact List.mem_append_left _ (by assumption) | apply List.mem_cons_of_mem | apply List.mem_append_right)) | exact Sees.root (hR _ (by omega)) | exact Sees.own (RowsIn.mem (by repeat (first | exact RowsIn.here | exact RowsIn.last | apply RowsIn.there | apply RowsIn.thereS)) _ (by omega))) (by first | rfl | omega | (push_cast; rfl) | (push_cast; omega)) (by first | exact fl_length _ | exact hd_length _ _ | (rw [fl_length]; omega)) (by omega)) ?_
      refine VL.q (.inl rfl) rfl (by decide) (yq_loadF rfl fb27_Block rfl (by first | exact Sees.root (by assumption) | exact Sees.own (by repeat (first | exact List.mem_cons_self | exact List.mem_append_left _ (by assumption) | apply List.mem_cons_of_mem | apply List.mem_append_right)) | exact Sees.root (hR _ (by omega)) | exact Sees.own (RowsIn.mem (by repeat (first | exact RowsIn.here | exact RowsIn.last | apply RowsIn.there | apply RowsIn.thereS)) _ (by omega))) (by omega)) ?_
      refine VL.r (.inl rfl) rfl (by decide) (yr_assign rfl rfl) ?_
      refine VL.r (.inl rfl) rfl (by decide) (yr_assign rfl rfl) ?_
      refine VL.nil ?_
      refine VE.then_wp ?_
      refine V.seq ?_
      refine V.region ?_
      refine VL.r (.inl rfl) rfl (by decide) (yr_fieldAddr rfl Try.underlying30 rfl rfl sz23_Block (by decide) rfl) ?_
      refine VL.q (.inl rfl) rfl (by decide) (yq_load rfl fb23_Block rfl (by first | exact Sees.root (by assumption) | exact Sees.own (by repeat (first | exact List.mem_cons_self | exact List.mem_append_left _ (by assumption) | apply List.mem_cons_of_mem | apply List.mem_append_right)) | exact Sees.root (hR _ (by omega)) | exact Sees.own (RowsIn.mem (by repeat (first | exact RowsIn.here | exact RowsIn.last | apply RowsIn.there | apply RowsIn.thereS)) _ (by omega))) rfl) ?_
      refine VL.r (.inl rfl) rfl (by decide) (yr_move rfl rfl) ?_
      refine VL.q (.inl rfl) rfl (by decide) (yq_idx (k := (fr + i)) rfl Try.underlying23 sz27_Block rfl rfl (by first | exact Sees.root (by assumption) | exact Sees.own (by repeat (first | exact List.mem_cons_self | exact List.mem_append_left _ (by assumption) | apply List.mem_cons_of_mem | apply List.mem_append_right)) | exact Sees.root (hR _ (by omega)) | exact Sees.own (RowsIn.mem (by repeat (first | exact RowsIn.here | exact RowsIn.last | apply RowsIn.there | apply RowsIn.thereS)) _ (by omega))) (by first | rfl | omega | (push_cast; rfl) | (push_cast; omega)) (by first | exact fl_length _ | exact hd_length _ _ | (rw [fl_length]; omega)) (by omega)) ?_
      refine VL.q (.inl rfl) rfl (by decide) (yq_loadF rfl fb27_Block rfl (by first | exact Sees.root (by assumption) | exact Sees.own (by repeat (first | exact List.mem_cons_self | exact List.mem_append_left _ (by assumption) | apply List.mem_cons_of_mem | apply List.mem_append_right)) | exact Sees.root (hR _ (by omega)) | exact Sees.own (RowsIn.mem (by repeat (first | exact RowsIn.here | exact RowsIn.last | apply RowsIn.there | apply RowsIn.thereS)) _ (by omega))) (by omega)) ?_
      refine VL.r (.inl rfl) rfl (by decide) (yr_move rfl rfl) ?_
      refine VL.r (.inl rfl) rfl (by decide) (yr_float rfl (.inr (.inr (.inl rfl))) rfl rfl) ?_
      refine VL.r (.inl rfl) rfl (by decide) (yr_assign rfl rfl) ?_
      refine VL.nil ?_
      refine VE.then_wp ?_
      refine V.seq ?_
      refine V.seq ?_
      refine V.region ?_
      refine VL.r (.inl rfl) rfl (by decide) (yr_move rfl rfl) ?_
      refine VL.r (.inl rfl) rfl (by decide) (yr_len rfl Try.underlying23 rfl) ?_
      refine VL.r (.inl rfl) rfl (by decide) (yr_move (u := .int .i64 0) rfl rfl) ?_
      refine VL.nil ?_
      refine VE.then_wp ?_
      refine V.block ?_
      refine V.loopc (G := Nat × (List Nat)) [(1, _), (2, _), (6, _), (7, _), (8, _), (9, _), (10, _), (11, _), (13, _), (45, _), (46, _), (47, _), (59, _), (60, _)] (fun ⟨k, A2⟩ => k ≤ (xss.getD 0 []).length ∧ A2.length = (xss.getD 0 []).length * (xss.getD 0 []).length ∧ ∀ j1 k1, j1 < (xss.getD 0 []).length → k1 < (xss.getD 0 []).length → A2.getD (j1 * (xss.getD 0 []).length + k1) 0 = blkA xss gs fr j1 k1 (if j1 < j ∨ (j1 = j ∧ k1 < k) then i + 1 else i)) (fun ⟨k, A2⟩ => [⟨some ⟨b26, 0, none⟩, fl B1, (xss.getD 0 []).length * 1, 27⟩, ⟨some ⟨b24, 0, none⟩, fl A2, ((xss.getD 0 []).length * (xss.getD 0 []).length) * 1, 27⟩, ⟨some ⟨b2, 0, none⟩, [.slice a xss.length c, .slice a1 ws.length c1, .slice a2 gs.length c2], 3, 30⟩]) (fun ⟨k, A2⟩ => [(61, .int .i64 (k : Int))]) (fun ⟨k, A2⟩ => (xss.getD 0 []).length - k) (0, A1) (.cons rfl (.cons rfl (.cons rfl (.cons rfl (.cons rfl (.cons rfl (.cons rfl (.cons rfl (.cons rfl (.cons rfl (.cons rfl (.cons rfl (.cons rfl (.cons rfl .nil)))))))))))))) (.cons rfl .nil) ?_ ?_ ?_
      · exact (fun w hw => hw)
      · exact (by exact ⟨by omega, hA1l, up_or hA3⟩)
      rintro ⟨k, A2⟩ ⟨hk, hA2l, hA4⟩
      show V _ _ _ [⟨some ⟨b26, 0, none⟩, fl B1, (xss.getD 0 []).length * 1, 27⟩, ⟨some ⟨b24, 0, none⟩, fl A2, ((xss.getD 0 []).length * (xss.getD 0 []).length) * 1, 27⟩, ⟨some ⟨b2, 0, none⟩, [.slice a xss.length c, .slice a1 ws.length c1, .slice a2 gs.length c2], 3, 30⟩] ([(61, .int .i64 (k : Int))] ++ [(1, _), (2, _), (6, _), (7, _), (8, _), (9, _), (10, _), (11, _), (13, _), (45, _), (46, _), (47, _), (59, _), (60, _)]) _ _
      have hixk := fun (h : j < (xss.getD 0 []).length) (hk : k < (xss.getD 0 []).length) => hix h hk
      refine V.seq ?_
      refine V.region ?_
      refine VL.r (.inl rfl) rfl (by decide) (yr_icmp rfl (.inr (.inr (.inl rfl))) rfl rfl) ?_
      refine VL.nil ?_
      refine VE.then_wp ?_
      refine V.seq ?_
      refine V.cond rfl (fun h3 => ?_) (fun h3 => ?_)
      · skip
        replace h3 := ic_lss h3
        refine V.skip ?_
        refine VE.then_wp ?_
        refine V.seq ?_
        refine V.block ?_
        refine V.seq ?_
        refine V.region ?_
        refine VL.r (.inl rfl) rfl (by decide) (yr_move rfl rfl) ?_
        refine VL.q (.inl rfl) rfl (by decide) (yq_idx (k := k) rfl Try.underlying23 sz27_Block rfl rfl (by first | exact Sees.root (by assumption) | exact Sees.own (by repeat (first | exact List.mem_cons_self | exact List.mem_append_left _ (by assumption) | apply List.mem_cons_of_mem | apply List.mem_append_right)) | exact Sees.root (hR _ (by omega)) | exact Sees.own (RowsIn.mem (by repeat (first | exact RowsIn.here | exact RowsIn.last | apply RowsIn.there | apply RowsIn.thereS)) _ (by omega))) (by first | rfl | omega | (push_cast; rfl) | (push_cast; omega)) (by first | exact fl_length _ | exact hd_length _ _ | (rw [fl_length]; omega)) (by omega)) ?_
        refine VL.q (.inl rfl) rfl (by decide) (yq_loadF rfl fb27_Block rfl (by first | exact Sees.root (by assumption) | exact Sees.own (by repeat (first | exact List.mem_cons_self | exact List.mem_append_left _ (by assumption) | apply List.mem_cons_of_mem | apply List.mem_append_right)) | exact Sees.root (hR _ (by omega)) | exact Sees.own (RowsIn.mem (by repeat (first | exact RowsIn.here | exact RowsIn.last | apply RowsIn.there | apply RowsIn.thereS)) _ (by omega))) (by omega)) ?_
        refine VL.r (.inl rfl) rfl (by decide) (yr_assign rfl rfl) ?_
        refine VL.r (.inl rfl) rfl (by decide) (yr_assign rfl rfl) ?_
        refine VL.nil ?_
        refine VE.then_wp ?_
        refine V.region ?_
        refine VL.r (.inl rfl) rfl (by decide) (yr_move rfl rfl) ?_
        refine VL.r (.inl rfl) rfl (by decide) (yr_move rfl rfl) ?_
        refine VL.r (.inl rfl) rfl (by decide) (yr_move rfl rfl) ?_
        refine VL.r (.inl rfl) rfl (by decide) (yr_mulN j (xss.getD 0 []).length rfl rfl rfl (by omega) (by omega) (Nat.le_trans (mul_small (by omega) (by omega)) (by decide))) ?_
        refine VL.r (.inl rfl) rfl (by decide) (yr_move rfl rfl) ?_
        refine VL.r (.inl rfl) rfl (by decide) (yr_int rfl rfl rfl (.inl ⟨rfl, wrap_in (by omega)⟩)) ?_
        refine VL.r (.inl rfl) rfl (by decide) (yr_move rfl rfl) ?_
        refine VL.r (.inl rfl) rfl (by decide) (yr_move rfl rfl) ?_
        refine VL.r (.inl rfl) rfl (by decide) (yr_move rfl rfl) ?_
        refine VL.r (.inl rfl) rfl (by decide) (yr_mulN j (xss.getD 0 []).length rfl rfl rfl (by omega) (by omega) (Nat.le_trans (mul_small (by omega) (by omega)) (by decide))) ?_
        refine VL.r (.inl rfl) rfl (by decide) (yr_move rfl rfl) ?_
        refine VL.r (.inl rfl) rfl (by decide) (yr_int rfl rfl rfl (.inl ⟨rfl, wrap_in (by omega)⟩)) ?_
        refine VL.q (.inl rfl) rfl (by decide) (yq_idx (k := ((j * (xss.getD 0 []).length) + k)) rfl Try.underlying23 sz27_Block rfl rfl (by first | exact Sees.root (by assumption) | exact Sees.own (by repeat (first | exact List.mem_cons_self | exact List.mem_append_left _ (by assumption) | apply List.mem_cons_of_mem | apply List.mem_append_right)) | exact Sees.root (hR _ (by omega)) | exact Sees.own (RowsIn.mem (by repeat (first | exact RowsIn.here | exact RowsIn.last | apply RowsIn.there | apply RowsIn.thereS)) _ (by omega))) (by first | rfl | omega | (push_cast; rfl) | (push_cast; omega)) (by first | exact fl_length _ | exact hd_length _ _ | (rw [fl_length]; omega)) (by omega)) ?_
        refine VL.q (.inl rfl) rfl (by decide) (yq_loadF rfl fb27_Block rfl (by first | exact Sees.root (by assumption) | exact Sees.own (by repeat (first | exact List.mem_cons_self | exact List.mem_append_left _ (by assumption) | apply List.mem_cons_of_mem | apply List.mem_append_right)) | exact Sees.root (hR _ (by omega)) | exact Sees.own (RowsIn.mem (by repeat (first | exact RowsIn.here | exact RowsIn.last | apply RowsIn.there | apply RowsIn.thereS)) _ (by omega))) (by omega)) ?_
        refine VL.r (.inl rfl) rfl (by decide) (yr_move rfl rfl) ?_
        refine VL.r (.inl rfl) rfl (by decide) (yr_move rfl rfl) ?_
        refine VL.r (.inl rfl) rfl (by decide) (yr_float rfl (.inr (.inr (.inl rfl))) rfl rfl) ?_
        refine VL.r (.inl rfl) rfl (by decide) (yr_float rfl (.inl rfl) rfl rfl) ?_
        refine VL.q (.inl rfl) rfl (by decide) (yq_idx (k := ((j * (xss.getD 0 []).length) + k)) rfl Try.underlying23 sz27_Block rfl rfl (by first | exact Sees.root (by assumption) | exact Sees.own (by repeat (first | exact List.mem_cons_self | exact List.mem_append_left _ (by assumption) | apply List.mem_cons_of_mem | apply List.mem_append_right)) | exact Sees.root (hR _ (by omega)) | exact Sees.own (RowsIn.mem (by repeat (first | exact RowsIn.here | exact RowsIn.last | apply RowsIn.there | apply RowsIn.thereS)) _ (by omega))) (by first | rfl | omega | (push_cast; rfl) | (push_cast; omega)) (by first | exact fl_length _ | exact hd_length _ _ | (rw [fl_length]; omega)) (by omega)) ?_
        refine VL.s (.inl rfl) rfl (yc_store rfl sz27_Block rfl rfl (by repeat (first | exact UpdF.here | apply UpdF.there | apply UpdF.thereS)) (.inl ⟨rfl, rfl⟩) rfl (by rw [fl_length]; omega) (by decide) (fl_set _ _ _)) ?_
        rintro ⟨⟩
        refine VL.nil ?_
        refine VE.block_normal ?_
        refine VE.then_wp ?_
        refine V.region ?_
        refine VL.r (.inl rfl) rfl (by decide) (yr_int rfl rfl rfl (.inl ⟨rfl, wrap_in (by omega)⟩)) ?_
        refine VL.r (.inl rfl) rfl (by decide) (yr_move rfl rfl) ?_
        refine VL.nil ?_
        refine VE.round (k + 1, A2.set (j * (xss.getD 0 []).length + k) (fop .add .f32 (A2.getD (j * (xss.getD 0 []).length + k) 0) (fop .mul .f32 (fop .mul .f32 (gs.getD (fr + i) 0) ((xss.getD (fr + i) []).getD j 0)) ((xss.getD (fr + i) []).getD k 0)))) ?_ ?_ ?_ ?_ ?_
        · exact (.cons rfl .nil)
        · exact (.cons rfl (.cons rfl (.cons rfl (.cons rfl (.cons rfl (.cons rfl (.cons rfl (.cons rfl (.cons rfl (.cons rfl (.cons rfl (.cons rfl (.cons rfl (.cons rfl .nil))))))))))))))
        · exact (fun w hw => hw)
        · exact ⟨by omega, by simp [hA2l], blkA_step hA2l (by omega) (by omega) hA4⟩
        · (try dsimp only); omega
      · skip
        replace h3 := ic_lss' h3
        refine V.exit ?_
        refine VE.then_exit ?_
        refine VE.then_exit ?_
        refine VE.block_here ?_
        refine VE.then_wp ?_
        refine V.draw [(0, 0), (1, 0), (2, 0), (3, 0), (4, 0), (5, 0), (6, 0), (7, 0), (8, 0), (9, 0), (10, 0), (11, 0), (12, 0), (13, 0), (14, 0), (15, 3)] mixed_Block (by kernel_rfl) (by intro j o hj; simp at hj) ?_
        refine SW.r rfl (.inl rfl) rfl (by decide) (yr_move rfl rfl) ?_
        refine SW.r rfl (.inl rfl) rfl (by decide) (yr_move rfl rfl) ?_
        refine SW.r rfl (.inl rfl) rfl (by decide) (yr_move rfl rfl) ?_
        refine SW.r rfl (.inl rfl) rfl (by decide) (yr_move rfl rfl) ?_
        refine SW.q rfl (.inl rfl) rfl (by decide) (yq_idx (k := j) rfl Try.underlying23 sz27_Block rfl rfl (by first | exact Sees.root (by assumption) | exact Sees.own (by repeat (first | exact List.mem_cons_self | exact List.mem_append_left _ (by assumption) | apply List.mem_cons_of_mem | apply List.mem_append_right)) | exact Sees.root (hR _ (by omega)) | exact Sees.own (RowsIn.mem (by repeat (first | exact RowsIn.here | exact RowsIn.last | apply RowsIn.there | apply RowsIn.thereS)) _ (by omega))) (by first | rfl | omega | (push_cast; rfl) | (push_cast; omega)) (by first | exact fl_length _ | exact hd_length _ _ | (rw [fl_length]; omega)) (by omega)) ?_
        refine SW.q rfl (.inl rfl) rfl (by decide) (yq_loadF rfl fb27_Block rfl (by first | exact Sees.root (by assumption) | exact Sees.own (by repeat (first | exact List.mem_cons_self | exact List.mem_append_left _ (by assumption) | apply List.mem_cons_of_mem | apply List.mem_append_right)) | exact Sees.root (hR _ (by omega)) | exact Sees.own (RowsIn.mem (by repeat (first | exact RowsIn.here | exact RowsIn.last | apply RowsIn.there | apply RowsIn.thereS)) _ (by omega))) (by omega)) ?_
        refine SW.r rfl (.inl rfl) rfl (by decide) (yr_move rfl rfl) ?_
        refine SW.r rfl (.inl rfl) rfl (by decide) (yr_fieldAddr rfl Try.underlying30 rfl rfl sz23_Block (by decide) rfl) ?_
        refine SW.q rfl (.inl rfl) rfl (by decide) (yq_load rfl fb23_Block rfl (by first | exact Sees.root (by assumption) | exact Sees.own (by repeat (first | exact List.mem_cons_self | exact List.mem_append_left _ (by assumption) | apply List.mem_cons_of_mem | apply List.mem_append_right)) | exact Sees.root (hR _ (by omega)) | exact Sees.own (RowsIn.mem (by repeat (first | exact RowsIn.here | exact RowsIn.last | apply RowsIn.there | apply RowsIn.thereS)) _ (by omega))) rfl) ?_
        refine SW.r rfl (.inl rfl) rfl (by decide) (yr_move rfl rfl) ?_
        refine SW.q rfl (.inl rfl) rfl (by decide) (yq_idx (k := (fr + i)) rfl Try.underlying23 sz27_Block rfl rfl (by first | exact Sees.root (by assumption) | exact Sees.own (by repeat (first | exact List.mem_cons_self | exact List.mem_append_left _ (by assumption) | apply List.mem_cons_of_mem | apply List.mem_append_right)) | exact Sees.root (hR _ (by omega)) | exact Sees.own (RowsIn.mem (by repeat (first | exact RowsIn.here | exact RowsIn.last | apply RowsIn.there | apply RowsIn.thereS)) _ (by omega))) (by first | rfl | omega | (push_cast; rfl) | (push_cast; omega)) (by first | exact fl_length _ | exact hd_length _ _ | (rw [fl_length]; omega)) (by omega)) ?_
        refine SW.q rfl (.inl rfl) rfl (by decide) (yq_loadF rfl fb27_Block rfl (by first | exact Sees.root (by assumption) | exact Sees.own (by repeat (first | exact List.mem_cons_self | exact List.mem_append_left _ (by assumption) | apply List.mem_cons_of_mem | apply List.mem_append_right)) | exact Sees.root (hR _ (by omega)) | exact Sees.own (RowsIn.mem (by repeat (first | exact RowsIn.here | exact RowsIn.last | apply RowsIn.there | apply RowsIn.thereS)) _ (by omega))) (by omega)) ?_
        refine SW.r rfl (.inl rfl) rfl (by decide) (yr_float rfl (.inr (.inr (.inl rfl))) rfl rfl) ?_
        refine SW.r rfl (.inl rfl) rfl (by decide) (yr_float rfl (.inl rfl) rfl rfl) ?_
        refine SW.q rfl (.inl rfl) rfl (by decide) (yq_idx (k := j) rfl Try.underlying23 sz27_Block rfl rfl (by first | exact Sees.root (by assumption) | exact Sees.own (by repeat (first | exact List.mem_cons_self | exact List.mem_append_left _ (by assumption) | apply List.mem_cons_of_mem | apply List.mem_append_right)) | exact Sees.root (hR _ (by omega)) | exact Sees.own (RowsIn.mem (by repeat (first | exact RowsIn.here | exact RowsIn.last | apply RowsIn.there | apply RowsIn.thereS)) _ (by omega))) (by first | rfl | omega | (push_cast; rfl) | (push_cast; omega)) (by first | exact fl_length _ | exact hd_length _ _ | (rw [fl_length]; omega)) (by omega)) ?_
        refine SW.s rfl (.inl rfl) rfl (yc_store rfl sz27_Block rfl rfl (by repeat (first | exact UpdF.here | apply UpdF.there | apply UpdF.thereS)) (.inl ⟨rfl, rfl⟩) rfl (by rw [fl_length]; omega) (by decide) (fl_set _ _ _)) ?_
        rintro ⟨⟩
        refine SW.done ?_
        refine VE.block_normal ?_
        refine VE.then_wp ?_
        refine V.region ?_
        refine VL.r (.inl rfl) rfl (by decide) (yr_int rfl rfl rfl (.inl ⟨rfl, wrap_in (by omega)⟩)) ?_
        refine VL.r (.inl rfl) rfl (by decide) (yr_move rfl rfl) ?_
        refine VL.nil ?_
        refine VE.round (j + 1, A2, B1.set j (fop .add .f32 (B1.getD j 0) (fop .mul .f32 (fop .mul .f32 (gs.getD (fr + i) 0) ((xss.getD (fr + i) []).getD j 0)) (ws.getD (fr + i) 0)))) ?_ ?_ ?_ ?_ ?_
        · exact (.cons rfl .nil)
        · exact (.cons rfl (.cons rfl (.cons rfl (.cons rfl (.cons rfl (.cons rfl (.cons rfl (.cons rfl (.cons rfl .nil)))))))))
        · exact (fun w hw => hw)
        · obtain rfl : k = (xss.getD 0 []).length := by omega
          exact ⟨by omega, hA2l, by simp [hB1l], or_up hA4, blkB_step hB1l (by omega) hB3⟩
        · (try dsimp only); omega
    · skip
      replace h2 := ic_lss' h2
      refine V.exit ?_
      refine VE.then_exit ?_
      refine VE.then_exit ?_
      refine VE.block_here ?_
      refine VE.block_normal ?_
      refine VE.then_wp ?_
      refine V.region ?_
      refine VL.r (.inl rfl) rfl (by decide) (yr_move rfl rfl) ?_
      refine VL.r (.inl rfl) rfl (by decide) (yr_int rfl rfl rfl (.inl ⟨rfl, wrap_in (by omega)⟩)) ?_
      refine VL.r (.inl rfl) rfl (by decide) (yr_assign rfl rfl) ?_
      refine VL.nil ?_
      refine VE.round (i + 1, A1, B1) ?_ ?_ ?_ ?_ ?_
      · exact (.cons (congrArg (fun i => some (Value.int .i64 i)) (by omega)) .nil)
      · exact (.cons rfl (.cons rfl (.cons rfl (.cons rfl (.cons rfl .nil)))))
      · exact (fun w hw => hw)
      · obtain rfl : j = (xss.getD 0 []).length := by omega
        exact ⟨by omega, hA1l, hB1l, fun j1 k1 h1 h2 => by rw [hA3 j1 k1 h1 h2, if_pos h1], fun j1 h1 => by rw [hB3 j1 h1, if_pos h1]⟩
      · (try dsimp only); omega
  · skip
    replace h1 := ic_lss' h1
    refine V.exit ?_
    refine VE.then_exit ?_
    refine VE.then_exit ?_
    refine VE.block_here ?_
    refine VE.then_wp ?_
    refine V.seq ?_
    refine V.region ?_
    refine VL.r (.inl rfl) rfl (by decide) (yr_move rfl rfl) ?_
    refine VL.r (.inl rfl) rfl (by decide) (yr_move rfl rfl) ?_
    refine VL.r (.inl rfl) rfl (by decide) (yr_assign rfl rfl) ?_
    refine VL.r (.inl rfl) rfl (by decide) (yr_assign rfl rfl) ?_
    refine VL.nil ?_
    refine VE.then_wp ?_
    refine V.ret ?_
    refine ret2 rfl rfl rfl (by nofun) (by nofun) (fun w1 hw => ?_)
    obtain rfl : i = cnt := by omega
    have hAe := ext_square hAl hA2
    have hBe : B = blockB xss ws gs fr i (xss.getD 0 []).length := ext_getD (by rw [hBl, blockB_length]) fun t ht => by rw [hB2 t (by omega), blockB, getD_range _ _ (by omega)]
    rw [hAe, hBe] at hw
    exact ⟨(b24, b26), rfl, hw.outs (((List.nil_sublist _).cons_cons _).cons_cons _)⟩

theorem c_l07At {w : World} {q : Option Addr} {a a1 a2 : Option Addr} {c c1 c2 : Nat} {f : Nat → Option Addr × Nat} {xss : List (List Nat)} {ws gs : List Nat} {bi : Int} (hQ : Cl w q [.slice a xss.length c, .slice a1 ws.length c1, .slice a2 gs.length c2]) (hA : Cl w a (hd f xss)) (hR : Rws w f xss) (hW : Cl w a1 (fl ws)) (hG : Cl w a2 (fl gs)) (hsz : bulk xss + ws.length + gs.length ≤ 1048576) (hval : ValidP xss ws gs) (hb0 : 0 ≤ bi) (hb1 : bi * 8 ≤ xss.length) : New Try.prog 86 [.pointer (some (adr q 0)), .int .i64 bi] w (fun p : Nat × Nat => .tuple #[.slice (some ⟨p.1, 0, none⟩) ((xss.getD 0 []).length * (xss.getD 0 []).length) ((xss.getD 0 []).length * (xss.getD 0 []).length), .slice (some ⟨p.2, 0, none⟩) (xss.getD 0 []).length (xss.getD 0 []).length]) (fun p => [⟨some ⟨p.2, 0, none⟩, fl (blockB xss ws gs (bi.toNat * 8) (min 8 (xss.length - bi.toNat * 8)) (xss.getD 0 []).length), (xss.getD 0 []).length * 1, 27⟩, ⟨some ⟨p.1, 0, none⟩, fl (blockA xss gs (bi.toNat * 8) (min 8 (xss.length - bi.toNat * 8)) (xss.getD 0 []).length), ((xss.getD 0 []).length * (xss.getD 0 []).length) * 1, 27⟩]) := by
  refine New.enter Try.func86 rfl Try.ntmps86 (Nat.le_of_ble_eq_true rfl) ?_
  have hr : ∀ i, i < xss.length → (xss.getD i []).length ≤ 1048576 := fun i hi => by have := bulk_row hi; omega
  have hxl : xss.length ≤ bulk xss := by unfold bulk; omega
  refine V.seq ?_
  refine V.region ?_
  refine VL.r (.inl rfl) rfl (by decide) (yr_assign (u := .slice none 0 0) rfl rfl) ?_
  refine VL.r (.inl rfl) rfl (by decide) (yr_assign (u := .slice none 0 0) rfl rfl) ?_
  refine VL.nil ?_
  refine VE.then_wp ?_
  refine V.seq ?_
  refine V.region ?_
  refine VL.r (.inl rfl) rfl (by decide) (yr_move rfl rfl) ?_
  refine VL.r (.inl rfl) rfl (by decide) (yr_int rfl rfl rfl (.inr (.inr ⟨rfl, wrap_in (by omega)⟩))) ?_
  refine VL.r (.inl rfl) rfl (by decide) (yr_assign rfl rfl) ?_
  refine VL.nil ?_
  refine VE.then_wp ?_
  refine V.seq ?_
  refine V.region ?_
  refine VL.r (.inl rfl) rfl (by decide) (yr_move rfl rfl) ?_
  refine VL.r (.inl rfl) rfl (by decide) (yr_move rfl rfl) ?_
  refine VL.r (.inl rfl) rfl (by decide) (yr_move rfl rfl) ?_
  refine VL.r (.inl rfl) rfl (by decide) (yr_nilCheck rfl rfl) ?_
  refine VL.r (.inl rfl) rfl (by decide) (yr_fieldAddr rfl Try.underlying30 rfl rfl sz22_Block (by decide) rfl) ?_
  refine VL.q (.inl rfl) rfl (by decide) (yq_load rfl fb22_Block rfl (by first | exact Sees.root (by assumption) | exact Sees.own (by repeat (first | exact List.mem_cons_self | exact List.mem_append_left _ (by assumption) | apply List.mem_cons_of_mem | apply List.mem_append_right)) | exact Sees.root (hR _ (by omega)) | exact Sees.own (RowsIn.mem (by repeat (first | exact RowsIn.here | exact RowsIn.last | apply RowsIn.there | apply RowsIn.thereS)) _ (by omega))) rfl) ?_
  refine VL.r (.inl rfl) rfl (by decide) (yr_len rfl Try.underlying22 rfl) ?_
  refine VL.r (.inl rfl) rfl (by decide) (yr_move rfl rfl) ?_
  refine VL.r (.inl rfl) rfl (by decide) (yr_int rfl rfl rfl (.inr (.inl ⟨rfl, wrap_in (by omega)⟩))) ?_
  refine VL.q (.inl rfl) rfl (by decide) (yq_callf rfl known131_Block (.cons rfl (.cons rfl .nil)) (fun w hw => c_l00Min)) ?_
  refine VL.new (.inl rfl) rfl (by decide) (yn_callf rfl known130_Block (.cons rfl (.cons rfl (.cons rfl .nil))) (fun w hw => (c_l07Block (fr := bi.toNat * 8) (cnt := min 8 (xss.length - bi.toNat * 8)) (by first | exact Sees.root (by assumption) w hw | exact Sees.own (by repeat (first | exact List.mem_cons_self | exact List.mem_append_left _ (by assumption) | apply List.mem_cons_of_mem | apply List.mem_append_right)) w hw) (by first | exact Sees.root (by assumption) w hw | exact Sees.own (by repeat (first | exact List.mem_cons_self | exact List.mem_append_left _ (by assumption) | apply List.mem_cons_of_mem | apply List.mem_append_right)) w hw) (by first | exact Rws.root (by assumption) hw | exact Rws.own (by repeat (first | exact RowsIn.here | exact RowsIn.last | apply RowsIn.there | apply RowsIn.thereS)) hw) (by first | exact Sees.root (by assumption) w hw | exact Sees.own (by repeat (first | exact List.mem_cons_self | exact List.mem_append_left _ (by assumption) | apply List.mem_cons_of_mem | apply List.mem_append_right)) w hw) (by first | exact Sees.root (by assumption) w hw | exact Sees.own (by repeat (first | exact List.mem_cons_self | exact List.mem_append_left _ (by assumption) | apply List.mem_cons_of_mem | apply List.mem_append_right)) w hw) (by omega) (by assumption) (by omega) (by omega) (by omega)))) ?_
  rintro ⟨b19, e19⟩
  refine VL.r (.inl rfl) rfl (by decide) (yr_extract rfl rfl rfl (by nofun)) ?_
  refine VL.r (.inl rfl) rfl (by decide) (yr_extract rfl rfl rfl (by nofun)) ?_
  refine VL.r (.inl rfl) rfl (by decide) (yr_assign rfl rfl) ?_
  refine VL.r (.inl rfl) rfl (by decide) (yr_assign rfl rfl) ?_
  refine VL.nil ?_
  refine VE.then_wp ?_
  refine V.ret ?_
  refine ret2 rfl rfl rfl (by nofun) (by nofun) (fun w1 hw => ?_)
  exact ⟨(b19, e19), rfl, hw.outs (List.Sublist.refl _)⟩

theorem c_specBlock {w : World} {a a1 a2 : Option Addr} {c c1 c2 : Nat} {f : Nat → Option Addr × Nat} {xss : List (List Nat)} {ws gs : List Nat} {bi : Int} (hA : Cl w a (hd f xss)) (hR : Rws w f xss) (hW : Cl w a1 (fl ws)) (hG : Cl w a2 (fl gs)) (hsz : bulk xss + ws.length + gs.length ≤ 1048576) : New Try.prog 31 [.agg #[.slice a xss.length c, .slice a1 ws.length c1, .slice a2 gs.length c2], .int .i64 bi] w (fun p : (Option Addr × Nat) × (Option Addr × Nat) => .tuple #[.slice p.1.1 (blockAD xss ws gs bi).length p.1.2, .slice p.2.1 (blockBD xss ws gs bi).length p.2.2, .bool (blockOk xss ws gs bi)]) (fun p => [⟨p.2.1, fl (blockBD xss ws gs bi), p.2.2 * 1, 27⟩, ⟨p.1.1, fl (blockAD xss ws gs bi), p.1.2 * 1, 27⟩]) := by
  refine New.enter Try.func31 rfl Try.ntmps31 (Nat.le_of_ble_eq_true rfl) ?_
  have hr : ∀ i, i < xss.length → (xss.getD i []).length ≤ 1048576 := fun i hi => by have := bulk_row hi; omega
  have hxl : xss.length ≤ bulk xss := by unfold bulk; omega
  have hbn := blocksN_le xss.length
  refine V.seq ?_
  refine V.region ?_
  refine VL.new1 (.inl rfl) rfl (by decide) (yn_box rfl rfl (.inr ⟨rfl, rfl⟩)) ?_
  intro b2
  refine VL.r (.inl rfl) rfl (by decide) (yr_assign (u := .slice none 0 0) rfl rfl) ?_
  refine VL.r (.inl rfl) rfl (by decide) (yr_assign (u := .slice none 0 0) rfl rfl) ?_
  refine VL.r (.inl rfl) rfl (by decide) (yr_assign (u := .bool false) rfl rfl) ?_
  refine VL.nil ?_
  refine VE.then_wp ?_
  refine V.seq ?_
  refine V.seq ?_
  refine V.region ?_
  refine VL.q (.inl rfl) rfl (by decide) (yq_callf rfl known83_Block (.cons rfl .nil) (fun w hw => (c_l07Is (by first | exact Sees.root (by assumption) w hw | exact Sees.own (by repeat (first | exact List.mem_cons_self | exact List.mem_append_left _ (by assumption) | apply List.mem_cons_of_mem | apply List.mem_append_right)) w hw) (by first | exact Sees.root (by assumption) w hw | exact Sees.own (by repeat (first | exact List.mem_cons_self | exact List.mem_append_left _ (by assumption) | apply List.mem_cons_of_mem | apply List.mem_append_right)) w hw) (by first | exact Rws.root (by assumption) hw | exact Rws.own (by repeat (first | exact RowsIn.here | exact RowsIn.last | apply RowsIn.there | apply RowsIn.thereS)) hw) (by first | exact Sees.root (by assumption) w hw | exact Sees.own (by repeat (first | exact List.mem_cons_self | exact List.mem_append_left _ (by assumption) | apply List.mem_cons_of_mem | apply List.mem_append_right)) w hw) (by first | exact Sees.root (by assumption) w hw | exact Sees.own (by repeat (first | exact List.mem_cons_self | exact List.mem_append_left _ (by assumption) | apply List.mem_cons_of_mem | apply List.mem_append_right)) w hw) (by omega)))) ?_
  refine VL.r (.inl rfl) rfl (by decide) (yr_not rfl rfl) ?_
  refine VL.r (.inl rfl) rfl (by decide) (yr_move rfl rfl) ?_
  refine VX.split 11 _ rfl (fun h1 => ?_) (fun h1 => ?_)
  · skip
    replace h1 := bnot_t h1
    refine VL.no rfl rfl rfl rfl rfl (by decide) ?_
    refine VL.no rfl rfl rfl rfl rfl (by decide) ?_
    refine VL.no rfl rfl rfl rfl rfl (by decide) ?_
    refine VL.no rfl rfl rfl rfl rfl (by decide) ?_
    refine VL.no rfl rfl rfl rfl rfl (by decide) ?_
    refine VL.r (.inl rfl) rfl (by decide) (yr_pick_t (u := .bool true) rfl rfl rfl) ?_
    refine VL.nil ?_
    refine VE.then_wp ?_
    refine V.condT rfl ?_
    refine V.seq ?_
    refine V.region ?_
    refine VL.r (.inl rfl) rfl (by decide) (yr_assign (u := .slice none 0 0) rfl rfl) ?_
    refine VL.r (.inl rfl) rfl (by decide) (yr_assign (u := .slice none 0 0) rfl rfl) ?_
    refine VL.r (.inl rfl) rfl (by decide) (yr_assign (u := .bool false) rfl rfl) ?_
    refine VL.nil ?_
    refine VE.then_wp ?_
    refine V.ret ?_
    refine VE.then_ret ?_
    refine ret3 rfl rfl rfl rfl (by nofun) (by nofun) (by nofun) (fun w1 hw => ?_)
    first
      | exact ⟨((some ⟨b20, 0, none⟩, (xss.getD 0 []).length * (xss.getD 0 []).length), (some ⟨e20, 0, none⟩, (xss.getD 0 []).length)), by rw [blockAD_yes hs, blockBD_yes hs, hs, blockA_length, blockB_length] <;> rfl, by rw [blockAD_yes hs, blockBD_yes hs]; exact hw.outs (((List.nil_sublist _).cons_cons _).cons_cons _)⟩
      | (have hs : blockOk xss ws gs bi = false := by first | exact block_no (by assumption) | exact block_no2 (by assumption)
         exact ⟨((none, 0), (none, 0)), by rw [blockAD_no hs, blockBD_no hs, hs]; rfl, hw.below, by rw [blockAD_no hs, blockBD_no hs]; simp [fl, Ent.at], by simp [Ent.apart]⟩)
  · skip
    replace h1 := bnot_f h1
    refine VL.r (.inr ⟨_, _, _, rfl, rfl, rfl⟩) rfl (by decide) (yr_move rfl rfl) ?_
    refine VL.q (.inr ⟨_, _, _, rfl, rfl, rfl⟩) rfl (by decide) (yq_callf rfl known85_Block (.cons rfl .nil) (fun w hw => (c_l07Blocks (by first | exact Sees.root (by assumption) w hw | exact Sees.own (by repeat (first | exact List.mem_cons_self | exact List.mem_append_left _ (by assumption) | apply List.mem_cons_of_mem | apply List.mem_append_right)) w hw) (by omega)))) ?_
    refine VL.r (.inr ⟨_, _, _, rfl, rfl, rfl⟩) rfl (by decide) (yr_int rfl rfl rfl (.inr (.inl ⟨rfl, wrap_in (by omega)⟩))) ?_
    refine VL.q (.inr ⟨_, _, _, rfl, rfl, rfl⟩) rfl (by decide) (yq_callf rfl known84_Block (.cons rfl (.cons rfl (.cons rfl .nil))) (fun w hw => c_l00In)) ?_
    refine VL.r (.inr ⟨_, _, _, rfl, rfl, rfl⟩) rfl (by decide) (yr_not rfl rfl) ?_
    refine VL.r (.inl rfl) rfl (by decide) (yr_pick_f rfl rfl rfl) ?_
    refine VL.nil ?_
    refine VE.then_wp ?_
    refine V.cond rfl (fun h3 => ?_) (fun h3 => ?_)
    · skip
      replace h3 := bnot_t h3
      refine V.seq ?_
      refine V.region ?_
      refine VL.r (.inl rfl) rfl (by decide) (yr_assign (u := .slice none 0 0) rfl rfl) ?_
      refine VL.r (.inl rfl) rfl (by decide) (yr_assign (u := .slice none 0 0) rfl rfl) ?_
      refine VL.r (.inl rfl) rfl (by decide) (yr_assign (u := .bool false) rfl rfl) ?_
      refine VL.nil ?_
      refine VE.then_wp ?_
      refine V.ret ?_
      refine VE.then_ret ?_
      refine ret3 rfl rfl rfl rfl (by nofun) (by nofun) (by nofun) (fun w1 hw => ?_)
      first
        | exact ⟨((some ⟨b20, 0, none⟩, (xss.getD 0 []).length * (xss.getD 0 []).length), (some ⟨e20, 0, none⟩, (xss.getD 0 []).length)), by rw [blockAD_yes hs, blockBD_yes hs, hs, blockA_length, blockB_length] <;> rfl, by rw [blockAD_yes hs, blockBD_yes hs]; exact hw.outs (((List.nil_sublist _).cons_cons _).cons_cons _)⟩
        | (have hs : blockOk xss ws gs bi = false := by first | exact block_no (by assumption) | exact block_no2 (by assumption)
           exact ⟨((none, 0), (none, 0)), by rw [blockAD_no hs, blockBD_no hs, hs]; rfl, hw.below, by rw [blockAD_no hs, blockBD_no hs]; simp [fl, Ent.at], by simp [Ent.apart]⟩)
    · skip
      replace h3 := bnot_f h3
      have hs : blockOk xss ws gs bi = true := block_yes (by assumption) (by assumption)
      obtain ⟨hval, hb0, hb1, hb2⟩ := block_is hs
      refine V.skip ?_
      refine VE.then_wp ?_
      refine V.seq ?_
      refine V.region ?_
      refine VL.r (.inl rfl) rfl (by decide) (yr_move rfl rfl) ?_
      refine VL.new (.inl rfl) rfl (by decide) (yn_callf rfl known86_Block (.cons rfl (.cons rfl .nil)) (fun w hw => (c_l07At (bi := bi) (by first | exact Sees.root (by assumption) w hw | exact Sees.own (by repeat (first | exact List.mem_cons_self | exact List.mem_append_left _ (by assumption) | apply List.mem_cons_of_mem | apply List.mem_append_right)) w hw) (by first | exact Sees.root (by assumption) w hw | exact Sees.own (by repeat (first | exact List.mem_cons_self | exact List.mem_append_left _ (by assumption) | apply List.mem_cons_of_mem | apply List.mem_append_right)) w hw) (by first | exact Rws.root (by assumption) hw | exact Rws.own (by repeat (first | exact RowsIn.here | exact RowsIn.last | apply RowsIn.there | apply RowsIn.thereS)) hw) (by first | exact Sees.root (by assumption) w hw | exact Sees.own (by repeat (first | exact List.mem_cons_self | exact List.mem_append_left _ (by assumption) | apply List.mem_cons_of_mem | apply List.mem_append_right)) w hw) (by first | exact Sees.root (by assumption) w hw | exact Sees.own (by repeat (first | exact List.mem_cons_self | exact List.mem_append_left _ (by assumption) | apply List.mem_cons_of_mem | apply List.mem_append_right)) w hw) (by omega) (by assumption) (by omega) (by omega)))) ?_
      rintro ⟨b20, e20⟩
      refine VL.r (.inl rfl) rfl (by decide) (yr_move rfl rfl) ?_
      refine VL.r (.inl rfl) rfl (by decide) (yr_extract rfl rfl rfl (by nofun)) ?_
      refine VL.r (.inl rfl) rfl (by decide) (yr_extract rfl rfl rfl (by nofun)) ?_
      refine VL.r (.inl rfl) rfl (by decide) (yr_assign rfl rfl) ?_
      refine VL.r (.inl rfl) rfl (by decide) (yr_assign rfl rfl) ?_
      refine VL.nil ?_
      refine VE.then_wp ?_
      refine V.seq ?_
      refine V.region ?_
      refine VL.r (.inl rfl) rfl (by decide) (yr_move rfl rfl) ?_
      refine VL.r (.inl rfl) rfl (by decide) (yr_move rfl rfl) ?_
      refine VL.r (.inl rfl) rfl (by decide) (yr_assign rfl rfl) ?_
      refine VL.r (.inl rfl) rfl (by decide) (yr_assign rfl rfl) ?_
      refine VL.r (.inl rfl) rfl (by decide) (yr_assign (u := .bool true) rfl rfl) ?_
      refine VL.nil ?_
      refine VE.then_wp ?_
      refine V.ret ?_
      refine ret3 rfl rfl rfl rfl (by nofun) (by nofun) (by nofun) (fun w1 hw => ?_)
      first
        | exact ⟨((some ⟨b20, 0, none⟩, (xss.getD 0 []).length * (xss.getD 0 []).length), (some ⟨e20, 0, none⟩, (xss.getD 0 []).length)), by rw [blockAD_yes hs, blockBD_yes hs, hs, blockA_length, blockB_length] <;> rfl, by rw [blockAD_yes hs, blockBD_yes hs]; exact hw.outs (((List.nil_sublist _).cons_cons _).cons_cons _)⟩
        | (have hs : blockOk xss ws gs bi = false := by first | exact block_no (by assumption) | exact block_no2 (by assumption)
           exact ⟨((none, 0), (none, 0)), by rw [blockAD_no hs, blockBD_no hs, hs]; rfl, hw.below, by rw [blockAD_no hs, blockBD_no hs]; simp [fl, Ent.at], by simp [Ent.apart]⟩)

theorem c_implBlock {w : World} {a a1 a2 : Option Addr} {c c1 c2 : Nat} {f : Nat → Option Addr × Nat} {xss : List (List Nat)} {ws gs : List Nat} {bi : Int} (hA : Cl w a (hd f xss)) (hR : Rws w f xss) (hW : Cl w a1 (fl ws)) (hG : Cl w a2 (fl gs)) (hsz : bulk xss + ws.length + gs.length ≤ 1048576) : New Try.prog 32 [.agg #[.slice a xss.length c, .slice a1 ws.length c1, .slice a2 gs.length c2], .int .i64 bi] w (fun p : (Option Addr × Nat) × (Option Addr × Nat) => .tuple #[.slice p.1.1 (blockAD xss ws gs bi).length p.1.2, .slice p.2.1 (blockBD xss ws gs bi).length p.2.2, .bool (blockOk xss ws gs bi)]) (fun p => [⟨p.2.1, fl (blockBD xss ws gs bi), p.2.2 * 1, 27⟩, ⟨p.1.1, fl (blockAD xss ws gs bi), p.1.2 * 1, 27⟩]) := by
  refine New.enter Try.func32 rfl Try.ntmps32 (Nat.le_of_ble_eq_true rfl) ?_
  have hr : ∀ i, i < xss.length → (xss.getD i []).length ≤ 1048576 := fun i hi => by have := bulk_row hi; omega
  have hxl : xss.length ≤ bulk xss := by unfold bulk; omega
  have hbn := blocksN_le xss.length
  refine V.seq ?_
  refine V.region ?_
  refine VL.new1 (.inl rfl) rfl (by decide) (yn_box rfl rfl (.inr ⟨rfl, rfl⟩)) ?_
  intro b2
  refine VL.r (.inl rfl) rfl (by decide) (yr_assign (u := .slice none 0 0) rfl rfl) ?_
  refine VL.r (.inl rfl) rfl (by decide) (yr_assign (u := .slice none 0 0) rfl rfl) ?_
  refine VL.r (.inl rfl) rfl (by decide) (yr_assign (u := .bool false) rfl rfl) ?_
  refine VL.nil ?_
  refine VE.then_wp ?_
  refine V.seq ?_
  refine V.seq ?_
  refine V.region ?_
  refine VL.q (.inl rfl) rfl (by decide) (yq_loadS rfl Try.underlying30 sz30_Block rfl (by first | exact Sees.root (by assumption) | exact Sees.own (by repeat (first | exact List.mem_cons_self | exact List.mem_append_left _ (by assumption) | apply List.mem_cons_of_mem | apply List.mem_append_right)) | exact Sees.root (hR _ (by omega)) | exact Sees.own (RowsIn.mem (by repeat (first | exact RowsIn.here | exact RowsIn.last | apply RowsIn.there | apply RowsIn.thereS)) _ (by omega))) rfl rfl rfl) ?_
  refine VL.q (.inl rfl) rfl (by decide) (yq_callf rfl known87_Block (.cons rfl .nil) (fun w hw => (c_implValid (by first | exact Sees.root (by assumption) w hw | exact Sees.own (by repeat (first | exact List.mem_cons_self | exact List.mem_append_left _ (by assumption) | apply List.mem_cons_of_mem | apply List.mem_append_right)) w hw) (by first | exact Rws.root (by assumption) hw | exact Rws.own (by repeat (first | exact RowsIn.here | exact RowsIn.last | apply RowsIn.there | apply RowsIn.thereS)) hw) (by first | exact Sees.root (by assumption) w hw | exact Sees.own (by repeat (first | exact List.mem_cons_self | exact List.mem_append_left _ (by assumption) | apply List.mem_cons_of_mem | apply List.mem_append_right)) w hw) (by first | exact Sees.root (by assumption) w hw | exact Sees.own (by repeat (first | exact List.mem_cons_self | exact List.mem_append_left _ (by assumption) | apply List.mem_cons_of_mem | apply List.mem_append_right)) w hw) (by omega)))) ?_
  refine VL.r (.inl rfl) rfl (by decide) (yr_not rfl rfl) ?_
  refine VL.r (.inl rfl) rfl (by decide) (yr_move rfl rfl) ?_
  refine VX.split 12 _ rfl (fun h1 => ?_) (fun h1 => ?_)
  · skip
    replace h1 := bnot_t h1
    refine VL.no rfl rfl rfl rfl rfl (by decide) ?_
    refine VL.no rfl rfl rfl rfl rfl (by decide) ?_
    refine VL.no rfl rfl rfl rfl rfl (by decide) ?_
    refine VL.no rfl rfl rfl rfl rfl (by decide) ?_
    refine VL.no rfl rfl rfl rfl rfl (by decide) ?_
    refine VL.no rfl rfl rfl rfl rfl (by decide) ?_
    refine VL.r (.inl rfl) rfl (by decide) (yr_pick_t (u := .bool true) rfl rfl rfl) ?_
    refine VL.nil ?_
    refine VE.then_wp ?_
    refine V.condT rfl ?_
    refine V.seq ?_
    refine V.region ?_
    refine VL.r (.inl rfl) rfl (by decide) (yr_assign (u := .slice none 0 0) rfl rfl) ?_
    refine VL.r (.inl rfl) rfl (by decide) (yr_assign (u := .slice none 0 0) rfl rfl) ?_
    refine VL.r (.inl rfl) rfl (by decide) (yr_assign (u := .bool false) rfl rfl) ?_
    refine VL.nil ?_
    refine VE.then_wp ?_
    refine V.ret ?_
    refine VE.then_ret ?_
    refine ret3 rfl rfl rfl rfl (by nofun) (by nofun) (by nofun) (fun w1 hw => ?_)
    first
      | exact ⟨((some ⟨b23, 0, none⟩, (xss.getD 0 []).length * (xss.getD 0 []).length), (some ⟨e23, 0, none⟩, (xss.getD 0 []).length)), by rw [blockAD_yes hs, blockBD_yes hs, hs, blockA_length, blockB_length] <;> rfl, by rw [blockAD_yes hs, blockBD_yes hs]; exact hw.outs (((List.nil_sublist _).cons_cons _).cons_cons _)⟩
      | (have hs : blockOk xss ws gs bi = false := by first | exact block_no (by assumption) | exact block_no2 (by assumption)
         exact ⟨((none, 0), (none, 0)), by rw [blockAD_no hs, blockBD_no hs, hs]; rfl, hw.below, by rw [blockAD_no hs, blockBD_no hs]; simp [fl, Ent.at], by simp [Ent.apart]⟩)
  · skip
    replace h1 := bnot_f h1
    refine VL.r (.inr ⟨_, _, _, rfl, rfl, rfl⟩) rfl (by decide) (yr_move rfl rfl) ?_
    refine VL.q (.inr ⟨_, _, _, rfl, rfl, rfl⟩) rfl (by decide) (yq_loadS rfl Try.underlying30 sz30_Block rfl (by first | exact Sees.root (by assumption) | exact Sees.own (by repeat (first | exact List.mem_cons_self | exact List.mem_append_left _ (by assumption) | apply List.mem_cons_of_mem | apply List.mem_append_right)) | exact Sees.root (hR _ (by omega)) | exact Sees.own (RowsIn.mem (by repeat (first | exact RowsIn.here | exact RowsIn.last | apply RowsIn.there | apply RowsIn.thereS)) _ (by omega))) rfl rfl rfl) ?_
    refine VL.q (.inr ⟨_, _, _, rfl, rfl, rfl⟩) rfl (by decide) (yq_callf rfl known88_Block (.cons rfl .nil) (fun w hw => (c_blocks (by omega)))) ?_
    refine VL.r (.inr ⟨_, _, _, rfl, rfl, rfl⟩) rfl (by decide) (yr_int rfl rfl rfl (.inr (.inl ⟨rfl, wrap_in (by omega)⟩))) ?_
    refine VL.q (.inr ⟨_, _, _, rfl, rfl, rfl⟩) rfl (by decide) (yq_callf rfl known77_Block (.cons rfl (.cons rfl (.cons rfl .nil))) (fun w hw => c_within)) ?_
    refine VL.r (.inr ⟨_, _, _, rfl, rfl, rfl⟩) rfl (by decide) (yr_not rfl rfl) ?_
    refine VL.r (.inl rfl) rfl (by decide) (yr_pick_f rfl rfl rfl) ?_
    refine VL.nil ?_
    refine VE.then_wp ?_
    refine V.cond rfl (fun h3 => ?_) (fun h3 => ?_)
    · skip
      replace h3 := bnot_t h3
      refine V.seq ?_
      refine V.region ?_
      refine VL.r (.inl rfl) rfl (by decide) (yr_assign (u := .slice none 0 0) rfl rfl) ?_
      refine VL.r (.inl rfl) rfl (by decide) (yr_assign (u := .slice none 0 0) rfl rfl) ?_
      refine VL.r (.inl rfl) rfl (by decide) (yr_assign (u := .bool false) rfl rfl) ?_
      refine VL.nil ?_
      refine VE.then_wp ?_
      refine V.ret ?_
      refine VE.then_ret ?_
      refine ret3 rfl rfl rfl rfl (by nofun) (by nofun) (by nofun) (fun w1 hw => ?_)
      first
        | exact ⟨((some ⟨b23, 0, none⟩, (xss.getD 0 []).length * (xss.getD 0 []).length), (some ⟨e23, 0, none⟩, (xss.getD 0 []).length)), by rw [blockAD_yes hs, blockBD_yes hs, hs, blockA_length, blockB_length] <;> rfl, by rw [blockAD_yes hs, blockBD_yes hs]; exact hw.outs (((List.nil_sublist _).cons_cons _).cons_cons _)⟩
        | (have hs : blockOk xss ws gs bi = false := by first | exact block_no (by assumption) | exact block_no2 (by assumption)
           exact ⟨((none, 0), (none, 0)), by rw [blockAD_no hs, blockBD_no hs, hs]; rfl, hw.below, by rw [blockAD_no hs, blockBD_no hs]; simp [fl, Ent.at], by simp [Ent.apart]⟩)
    · skip
      replace h3 := bnot_f h3
      have hs : blockOk xss ws gs bi = true := block_yes (by assumption) (by assumption)
      obtain ⟨hval, hb0, hb1, hb2⟩ := block_is hs
      refine V.skip ?_
      refine VE.then_wp ?_
      refine V.seq ?_
      refine V.region ?_
      refine VL.q (.inl rfl) rfl (by decide) (yq_loadS rfl Try.underlying30 sz30_Block rfl (by first | exact Sees.root (by assumption) | exact Sees.own (by repeat (first | exact List.mem_cons_self | exact List.mem_append_left _ (by assumption) | apply List.mem_cons_of_mem | apply List.mem_append_right)) | exact Sees.root (hR _ (by omega)) | exact Sees.own (RowsIn.mem (by repeat (first | exact RowsIn.here | exact RowsIn.last | apply RowsIn.there | apply RowsIn.thereS)) _ (by omega))) rfl rfl rfl) ?_
      refine VL.r (.inl rfl) rfl (by decide) (yr_move rfl rfl) ?_
      refine VL.new (.inl rfl) rfl (by decide) (yn_callf rfl known89_Block (.cons rfl (.cons rfl .nil)) (fun w hw => (c_block (blk := bi.toNat) (by first | exact Sees.root (by assumption) w hw | exact Sees.own (by repeat (first | exact List.mem_cons_self | exact List.mem_append_left _ (by assumption) | apply List.mem_cons_of_mem | apply List.mem_append_right)) w hw) (by first | exact Rws.root (by assumption) hw | exact Rws.own (by repeat (first | exact RowsIn.here | exact RowsIn.last | apply RowsIn.there | apply RowsIn.thereS)) hw) (by first | exact Sees.root (by assumption) w hw | exact Sees.own (by repeat (first | exact List.mem_cons_self | exact List.mem_append_left _ (by assumption) | apply List.mem_cons_of_mem | apply List.mem_append_right)) w hw) (by first | exact Sees.root (by assumption) w hw | exact Sees.own (by repeat (first | exact List.mem_cons_self | exact List.mem_append_left _ (by assumption) | apply List.mem_cons_of_mem | apply List.mem_append_right)) w hw) (by omega) (by assumption) (by omega) rfl rfl (by omega)))) ?_
      rintro ⟨b23, e23⟩
      refine VL.r (.inl rfl) rfl (by decide) (yr_move rfl rfl) ?_
      refine VL.r (.inl rfl) rfl (by decide) (yr_extract rfl rfl rfl (by nofun)) ?_
      refine VL.r (.inl rfl) rfl (by decide) (yr_extract rfl rfl rfl (by nofun)) ?_
      refine VL.r (.inl rfl) rfl (by decide) (yr_assign rfl rfl) ?_
      refine VL.r (.inl rfl) rfl (by decide) (yr_assign rfl rfl) ?_
      refine VL.nil ?_
      refine VE.then_wp ?_
      refine V.seq ?_
      refine V.region ?_
      refine VL.r (.inl rfl) rfl (by decide) (yr_move rfl rfl) ?_
      refine VL.r (.inl rfl) rfl (by decide) (yr_move rfl rfl) ?_
      refine VL.r (.inl rfl) rfl (by decide) (yr_assign rfl rfl) ?_
      refine VL.r (.inl rfl) rfl (by decide) (yr_assign rfl rfl) ?_
      refine VL.r (.inl rfl) rfl (by decide) (yr_assign (u := .bool true) rfl rfl) ?_
      refine VL.nil ?_
      refine VE.then_wp ?_
      refine V.ret ?_
      refine ret3 rfl rfl rfl rfl (by nofun) (by nofun) (by nofun) (fun w1 hw => ?_)
      first
        | exact ⟨((some ⟨b23, 0, none⟩, (xss.getD 0 []).length * (xss.getD 0 []).length), (some ⟨e23, 0, none⟩, (xss.getD 0 []).length)), by rw [blockAD_yes hs, blockBD_yes hs, hs, blockA_length, blockB_length] <;> rfl, by rw [blockAD_yes hs, blockBD_yes hs]; exact hw.outs (((List.nil_sublist _).cons_cons _).cons_cons _)⟩
        | (have hs : blockOk xss ws gs bi = false := by first | exact block_no (by assumption) | exact block_no2 (by assumption)
           exact ⟨((none, 0), (none, 0)), by rw [blockAD_no hs, blockBD_no hs, hs]; rfl, hw.below, by rw [blockAD_no hs, blockBD_no hs]; simp [fl, Ent.at], by simp [Ent.apart]⟩)

theorem law_BlockNormal {w : World} {a a1 a2 : Option Addr} {c c1 c2 : Nat} {f : Nat → Option Addr × Nat} {xss : List (List Nat)} {ws gs : List Nat} {bi : Int} (hA : Cl w a (hd f xss)) (hR : Rws w f xss) (hW : Cl w a1 (fl ws)) (hG : Cl w a2 (fl gs)) (hX : Cans xss) (hXw : ∀ x ∈ ws, Can .f32 x) (hXg : ∀ x ∈ gs, Can .f32 x) (hm : xss.length ≤ 9223372036854775807) (hr1 : ∀ i, i < xss.length → (xss.getD i []).length ≤ 9223372036854775807) (hw1 : ws.length ≤ 9223372036854775807) (hg1 : gs.length ≤ 9223372036854775807) : Pure Try.prog 5 [.agg #[.slice a xss.length c, .slice a1 ws.length c1, .slice a2 gs.length c2], .int .i64 bi] w (.bool true) := by
  refine Pure.enter Try.func5 rfl Try.ntmps5 (Nat.le_of_ble_eq_true rfl) ?_
  have hbu : bulk xss = xss.length + sumK xss xss.length := rfl
  have hS1 := can_blockAD xss ws gs bi
  have hS2 := can_blockBD xss ws gs bi
  have hSl1 := length_blockAD xss ws gs bi
  have hSl2 := length_blockBD xss ws gs bi
  refine V.seq ?_
  refine V.region ?_
  refine VL.new1 (.inl rfl) rfl (by decide) (yn_box rfl rfl (.inr ⟨rfl, rfl⟩)) ?_
  intro b2
  refine VL.r (.inl rfl) rfl (by decide) (yr_assign (u := .bool false) rfl rfl) ?_
  refine VL.nil ?_
  refine VE.then_wp ?_
  refine V.seq ?_
  refine V.region ?_
  refine VL.r (.inl rfl) rfl (by decide) (yr_assign (u := .int .i64 1048576) rfl rfl) ?_
  refine VL.nil ?_
  refine VE.then_wp ?_
  refine V.seq ?_
  refine V.region ?_
  refine VL.q (.inl rfl) rfl (by decide) (yq_loadS rfl Try.underlying25 sz25_Block rfl (by first | exact Sees.root (by assumption) | exact Sees.own (by repeat (first | exact List.mem_cons_self | exact List.mem_append_left _ (by assumption) | apply List.mem_cons_of_mem | apply List.mem_append_right)) | exact Sees.root (hR _ (by omega)) | exact Sees.own (RowsIn.mem (by repeat (first | exact RowsIn.here | exact RowsIn.last | apply RowsIn.there | apply RowsIn.thereS)) _ (by omega))) rfl rfl rfl) ?_
  refine VL.r (.inl rfl) rfl (by decide) (yr_move rfl rfl) ?_
  refine VL.q (.inl rfl) rfl (by decide) (yq_callf rfl known15_Block (.cons rfl (.cons rfl .nil)) (fun w hw => (c_szDesign (by first | exact Sees.root (by assumption) w hw | exact Sees.own (by repeat (first | exact List.mem_cons_self | exact List.mem_append_left _ (by assumption) | apply List.mem_cons_of_mem | apply List.mem_append_right)) w hw) (by omega) (by omega) (by omega) (by assumption) (by omega) (by omega)))) ?_
  refine VL.r (.inl rfl) rfl (by decide) (yr_assign rfl rfl) ?_
  refine VL.nil ?_
  refine VE.then_wp ?_
  refine V.seq ?_
  refine V.seq ?_
  refine V.region ?_
  refine VL.r (.inl rfl) rfl (by decide) (yr_move rfl rfl) ?_
  refine VL.r (.inl rfl) rfl (by decide) (yr_icmp rfl (.inr (.inr (.inl rfl))) rfl rfl) ?_
  refine VL.nil ?_
  refine VE.then_wp ?_
  refine V.cond rfl (fun h1 => ?_) (fun h1 => ?_)
  · skip
    replace h1 := ic_lss h1
    refine V.seq ?_
    refine V.region ?_
    refine VL.r (.inl rfl) rfl (by decide) (yr_assign (u := .bool true) rfl rfl) ?_
    refine VL.nil ?_
    refine VE.then_wp ?_
    refine V.ret ?_
    refine VE.then_ret ?_
    refine ret1 rfl rfl (fun w1 hw => ?_)
    exact ⟨rfl, hw.below⟩
  · skip
    replace h1 := ic_lss' h1
    have hsz := szOf_fits h1
    refine V.skip ?_
    refine VE.then_wp ?_
    refine V.seq ?_
    refine V.region ?_
    refine VL.q (.inl rfl) rfl (by decide) (yq_loadS rfl Try.underlying25 sz25_Block rfl (by first | exact Sees.root (by assumption) | exact Sees.own (by repeat (first | exact List.mem_cons_self | exact List.mem_append_left _ (by assumption) | apply List.mem_cons_of_mem | apply List.mem_append_right)) | exact Sees.root (hR _ (by omega)) | exact Sees.own (RowsIn.mem (by repeat (first | exact RowsIn.here | exact RowsIn.last | apply RowsIn.there | apply RowsIn.thereS)) _ (by omega))) rfl rfl rfl) ?_
    refine VL.new (.inl rfl) rfl (by decide) (yn_callf rfl known17_Block (.cons rfl .nil) (fun w hw => (c_toDesign (by first | exact Sees.root (by assumption) w hw | exact Sees.own (by repeat (first | exact List.mem_cons_self | exact List.mem_append_left _ (by assumption) | apply List.mem_cons_of_mem | apply List.mem_append_right)) w hw) (by first | exact Rws.root (by assumption) hw | exact Rws.own (by repeat (first | exact RowsIn.here | exact RowsIn.last | apply RowsIn.there | apply RowsIn.thereS)) hw) (by first | exact Sees.root (by assumption) w hw | exact Sees.own (by repeat (first | exact List.mem_cons_self | exact List.mem_append_left _ (by assumption) | apply List.mem_cons_of_mem | apply List.mem_append_right)) w hw) (by first | exact Sees.root (by assumption) w hw | exact Sees.own (by repeat (first | exact List.mem_cons_self | exact List.mem_append_left _ (by assumption) | apply List.mem_cons_of_mem | apply List.mem_append_right)) w hw) (by omega)))) ?_
    rintro ⟨⟨b26, f26⟩, ⟨a26, c26⟩, ⟨d26, e26⟩⟩
    refine VL.r (.inl rfl) rfl (by decide) (yr_move rfl rfl) ?_
    refine VL.new (.inl rfl) rfl (by decide) (yn_callf rfl known31_Block (.cons rfl (.cons rfl .nil)) (fun w hw => (c_specBlock (by first | exact Sees.root (by assumption) w hw | exact Sees.own (by repeat (first | exact List.mem_cons_self | exact List.mem_append_left _ (by assumption) | apply List.mem_cons_of_mem | apply List.mem_append_right)) w hw) (by first | exact Rws.root (by assumption) hw | exact Rws.own (by repeat (first | exact RowsIn.here | exact RowsIn.last | apply RowsIn.there | apply RowsIn.thereS)) hw) (by first | exact Sees.root (by assumption) w hw | exact Sees.own (by repeat (first | exact List.mem_cons_self | exact List.mem_append_left _ (by assumption) | apply List.mem_cons_of_mem | apply List.mem_append_right)) w hw) (by first | exact Sees.root (by assumption) w hw | exact Sees.own (by repeat (first | exact List.mem_cons_self | exact List.mem_append_left _ (by assumption) | apply List.mem_cons_of_mem | apply List.mem_append_right)) w hw) (by omega)))) ?_
    rintro ⟨⟨a28, c28⟩, ⟨d28, e28⟩⟩
    refine VL.r (.inl rfl) rfl (by decide) (yr_move rfl rfl) ?_
    refine VL.r (.inl rfl) rfl (by decide) (yr_extract rfl rfl rfl (by nofun)) ?_
    refine VL.r (.inl rfl) rfl (by decide) (yr_extract rfl rfl rfl (by nofun)) ?_
    refine VL.r (.inl rfl) rfl (by decide) (yr_extract rfl rfl rfl (by nofun)) ?_
    refine VL.r (.inl rfl) rfl (by decide) (yr_assign rfl rfl) ?_
    refine VL.r (.inl rfl) rfl (by decide) (yr_assign rfl rfl) ?_
    refine VL.r (.inl rfl) rfl (by decide) (yr_assign rfl rfl) ?_
    refine VL.nil ?_
    refine VE.then_wp ?_
    refine V.seq ?_
    refine V.region ?_
    refine VL.q (.inl rfl) rfl (by decide) (yq_loadS rfl Try.underlying25 sz25_Block rfl (by first | exact Sees.root (by assumption) | exact Sees.own (by repeat (first | exact List.mem_cons_self | exact List.mem_append_left _ (by assumption) | apply List.mem_cons_of_mem | apply List.mem_append_right)) | exact Sees.root (hR _ (by omega)) | exact Sees.own (RowsIn.mem (by repeat (first | exact RowsIn.here | exact RowsIn.last | apply RowsIn.there | apply RowsIn.thereS)) _ (by omega))) rfl rfl rfl) ?_
    refine VL.new (.inl rfl) rfl (by decide) (yn_callf rfl known17_Block (.cons rfl .nil) (fun w hw => (c_toDesign (by first | exact Sees.root (by assumption) w hw | exact Sees.own (by repeat (first | exact List.mem_cons_self | exact List.mem_append_left _ (by assumption) | apply List.mem_cons_of_mem | apply List.mem_append_right)) w hw) (by first | exact Rws.root (by assumption) hw | exact Rws.own (by repeat (first | exact RowsIn.here | exact RowsIn.last | apply RowsIn.there | apply RowsIn.thereS)) hw) (by first | exact Sees.root (by assumption) w hw | exact Sees.own (by repeat (first | exact List.mem_cons_self | exact List.mem_append_left _ (by assumption) | apply List.mem_cons_of_mem | apply List.mem_append_right)) w hw) (by first | exact Sees.root (by assumption) w hw | exact Sees.own (by repeat (first | exact List.mem_cons_self | exact List.mem_append_left _ (by assumption) | apply List.mem_cons_of_mem | apply List.mem_append_right)) w hw) (by omega)))) ?_
    rintro ⟨⟨b33, f33⟩, ⟨a33, c33⟩, ⟨d33, e33⟩⟩
    refine VL.new1 (.inl rfl) rfl (by decide) (yn_alloc rfl zero30_Block rfl) ?_
    intro b9
    refine VL.s (.inl rfl) rfl (yc_store rfl sz30_Block rfl rfl (by repeat (first | exact UpdF.here | apply UpdF.there | apply UpdF.thereS)) (.inr ⟨rfl, rfl⟩) rfl (by first | exact Nat.le_of_ble_eq_true rfl | simp) (by decide) rfl) ?_
    rintro ⟨⟩
    refine VL.nil ?_
    refine VE.then_wp ?_
    refine V.seq ?_
    refine V.region ?_
    refine VL.q (.inl rfl) rfl (by decide) (yq_loadS rfl Try.underlying30 sz30_Block rfl (by first | exact Sees.root (by assumption) | exact Sees.own (by repeat (first | exact List.mem_cons_self | exact List.mem_append_left _ (by assumption) | apply List.mem_cons_of_mem | apply List.mem_append_right)) | exact Sees.root (hR _ (by omega)) | exact Sees.own (RowsIn.mem (by repeat (first | exact RowsIn.here | exact RowsIn.last | apply RowsIn.there | apply RowsIn.thereS)) _ (by omega))) rfl rfl rfl) ?_
    refine VL.r (.inl rfl) rfl (by decide) (yr_move rfl rfl) ?_
    refine VL.new (.inl rfl) rfl (by decide) (yn_callf rfl known32_Block (.cons rfl (.cons rfl .nil)) (fun w hw => (c_implBlock (by first | exact Sees.root (by assumption) w hw | exact Sees.own (by repeat (first | exact List.mem_cons_self | exact List.mem_append_left _ (by assumption) | apply List.mem_cons_of_mem | apply List.mem_append_right)) w hw) (by first | exact Rws.root (by assumption) hw | exact Rws.own (by repeat (first | exact RowsIn.here | exact RowsIn.last | apply RowsIn.there | apply RowsIn.thereS)) hw) (by first | exact Sees.root (by assumption) w hw | exact Sees.own (by repeat (first | exact List.mem_cons_self | exact List.mem_append_left _ (by assumption) | apply List.mem_cons_of_mem | apply List.mem_append_right)) w hw) (by first | exact Sees.root (by assumption) w hw | exact Sees.own (by repeat (first | exact List.mem_cons_self | exact List.mem_append_left _ (by assumption) | apply List.mem_cons_of_mem | apply List.mem_append_right)) w hw) (by omega)))) ?_
    rintro ⟨⟨a37, c37⟩, ⟨d37, e37⟩⟩
    refine VL.r (.inl rfl) rfl (by decide) (yr_move rfl rfl) ?_
    refine VL.r (.inl rfl) rfl (by decide) (yr_extract rfl rfl rfl (by nofun)) ?_
    refine VL.r (.inl rfl) rfl (by decide) (yr_extract rfl rfl rfl (by nofun)) ?_
    refine VL.r (.inl rfl) rfl (by decide) (yr_extract rfl rfl rfl (by nofun)) ?_
    refine VL.r (.inl rfl) rfl (by decide) (yr_assign rfl rfl) ?_
    refine VL.r (.inl rfl) rfl (by decide) (yr_assign rfl rfl) ?_
    refine VL.r (.inl rfl) rfl (by decide) (yr_assign rfl rfl) ?_
    refine VL.nil ?_
    refine VE.then_wp ?_
    refine V.seq ?_
    refine V.seq ?_
    refine V.region ?_
    refine VL.r (.inl rfl) rfl (by decide) (yr_move rfl rfl) ?_
    refine VL.r (.inl rfl) rfl (by decide) (yr_move rfl rfl) ?_
    refine VL.q (.inl rfl) rfl (by decide) (yq_callf rfl known22_Block (.cons rfl (.cons rfl .nil)) (fun w hw => c_eqF (by first | exact Sees.root (by assumption) w hw | exact Sees.own (by repeat (first | exact List.mem_cons_self | exact List.mem_append_left _ (by assumption) | apply List.mem_cons_of_mem | apply List.mem_append_right)) w hw) (by first | exact Sees.root (by assumption) w hw | exact Sees.own (by repeat (first | exact List.mem_cons_self | exact List.mem_append_left _ (by assumption) | apply List.mem_cons_of_mem | apply List.mem_append_right)) w hw) (by first | assumption | exact can_up _ | exact can_fop _ _ _ _ | exact can_of _ (by assumption)) (by first | assumption | exact can_up _ | exact can_fop _ _ _ _ | exact can_of _ (by assumption)) (by omega))) ?_
    refine VL.r (.inl rfl) rfl (by decide) (yr_not rfl rfl) ?_
    refine VL.r (.inl rfl) rfl (by decide) (yr_move rfl rfl) ?_
    refine VX.split 45 _ rfl (fun h2 => ?_) (fun h2 => ?_)
    · skip
      replace h2 := bnot_t h2
      first | (exfalso; omega) | (simp [bcmp] at h2; done)
    · skip
      replace h2 := bnot_f h2
      refine VL.r (.inr ⟨_, _, _, rfl, rfl, rfl⟩) rfl (by decide) (yr_move rfl rfl) ?_
      refine VL.r (.inr ⟨_, _, _, rfl, rfl, rfl⟩) rfl (by decide) (yr_move rfl rfl) ?_
      refine VL.q (.inr ⟨_, _, _, rfl, rfl, rfl⟩) rfl (by decide) (yq_callf rfl known22_Block (.cons rfl (.cons rfl .nil)) (fun w hw => c_eqF (by first | exact Sees.root (by assumption) w hw | exact Sees.own (by repeat (first | exact List.mem_cons_self | exact List.mem_append_left _ (by assumption) | apply List.mem_cons_of_mem | apply List.mem_append_right)) w hw) (by first | exact Sees.root (by assumption) w hw | exact Sees.own (by repeat (first | exact List.mem_cons_self | exact List.mem_append_left _ (by assumption) | apply List.mem_cons_of_mem | apply List.mem_append_right)) w hw) (by first | assumption | exact can_up _ | exact can_fop _ _ _ _ | exact can_of _ (by assumption)) (by first | assumption | exact can_up _ | exact can_fop _ _ _ _ | exact can_of _ (by assumption)) (by omega))) ?_
      refine VL.r (.inr ⟨_, _, _, rfl, rfl, rfl⟩) rfl (by decide) (yr_not rfl rfl) ?_
      refine VL.r (.inl rfl) rfl (by decide) (yr_pick_f rfl rfl rfl) ?_
      refine VL.r (.inl rfl) rfl (by decide) (yr_move rfl rfl) ?_
      refine VX.split 51 _ rfl (fun h3 => ?_) (fun h3 => ?_)
      · skip
        replace h3 := bnot_t h3
        first | (exfalso; omega) | (simp [bcmp] at h3; done)
      · skip
        replace h3 := bnot_f h3
        refine VL.r (.inr ⟨_, _, _, rfl, rfl, rfl⟩) rfl (by decide) (yr_move rfl rfl) ?_
        refine VL.r (.inr ⟨_, _, _, rfl, rfl, rfl⟩) rfl (by decide) (yr_move rfl rfl) ?_
        refine VL.r (.inr ⟨_, _, _, rfl, rfl, rfl⟩) rfl (by decide) (yr_bcmp rfl Try.underlying4 rfl rfl (.inr rfl)) ?_
        refine VL.r (.inl rfl) rfl (by decide) (yr_pick_f rfl rfl rfl) ?_
        refine VL.nil ?_
        refine VE.then_wp ?_
        refine V.cond rfl (fun h4 => ?_) (fun h4 => ?_)
        · skip
          first | (exfalso; omega) | (simp [bcmp] at h4; done)
        · skip
          refine V.skip ?_
          refine VE.then_wp ?_
          refine V.seq ?_
          refine V.seq ?_
          refine V.draw [(0, 0), (1, 0), (2, 1), (3, 0), (4, 0)] mixed_Block (by kernel_rfl) (by intro j o hj; simp at hj) ?_
          refine SW.q rfl (.inl rfl) rfl (by decide) (yq_loadS rfl Try.underlying30 sz30_Block rfl (by first | exact Sees.root (by assumption) | exact Sees.own (by repeat (first | exact List.mem_cons_self | exact List.mem_append_left _ (by assumption) | apply List.mem_cons_of_mem | apply List.mem_append_right)) | exact Sees.root (hR _ (by omega)) | exact Sees.own (RowsIn.mem (by repeat (first | exact RowsIn.here | exact RowsIn.last | apply RowsIn.there | apply RowsIn.thereS)) _ (by omega))) rfl rfl rfl) ?_
          refine SW.q rfl (.inl rfl) rfl (by decide) (yq_loadS rfl Try.underlying25 sz25_Block rfl (by first | exact Sees.root (by assumption) | exact Sees.own (by repeat (first | exact List.mem_cons_self | exact List.mem_append_left _ (by assumption) | apply List.mem_cons_of_mem | apply List.mem_append_right)) | exact Sees.root (hR _ (by omega)) | exact Sees.own (RowsIn.mem (by repeat (first | exact RowsIn.here | exact RowsIn.last | apply RowsIn.there | apply RowsIn.thereS)) _ (by omega))) rfl rfl rfl) ?_
          refine SW.new rfl (.inl rfl) rfl (by decide) (yn_callf rfl known17_Block (.cons rfl .nil) (fun w hw => (c_toDesign (by first | exact Sees.root (by assumption) w hw | exact Sees.own (by repeat (first | exact List.mem_cons_self | exact List.mem_append_left _ (by assumption) | apply List.mem_cons_of_mem | apply List.mem_append_right)) w hw) (by first | exact Rws.root (by assumption) hw | exact Rws.own (by repeat (first | exact RowsIn.here | exact RowsIn.last | apply RowsIn.there | apply RowsIn.thereS)) hw) (by first | exact Sees.root (by assumption) w hw | exact Sees.own (by repeat (first | exact List.mem_cons_self | exact List.mem_append_left _ (by assumption) | apply List.mem_cons_of_mem | apply List.mem_append_right)) w hw) (by first | exact Sees.root (by assumption) w hw | exact Sees.own (by repeat (first | exact List.mem_cons_self | exact List.mem_append_left _ (by assumption) | apply List.mem_cons_of_mem | apply List.mem_append_right)) w hw) (by omega)))) ?_
          rintro ⟨⟨b58, f58⟩, ⟨a58, c58⟩, ⟨d58, e58⟩⟩
          refine SW.q rfl (.inl rfl) rfl (by decide) (yq_callf rfl known21_Block (.cons rfl (.cons rfl .nil)) (fun w hw => (c_eqDesign (by first | exact Sees.root (by assumption) w hw | exact Sees.own (by repeat (first | exact List.mem_cons_self | exact List.mem_append_left _ (by assumption) | apply List.mem_cons_of_mem | apply List.mem_append_right)) w hw) (by first | exact Rws.root (by assumption) hw | exact Rws.own (by repeat (first | exact RowsIn.here | exact RowsIn.last | apply RowsIn.there | apply RowsIn.thereS)) hw) (by first | exact Sees.root (by assumption) w hw | exact Sees.own (by repeat (first | exact List.mem_cons_self | exact List.mem_append_left _ (by assumption) | apply List.mem_cons_of_mem | apply List.mem_append_right)) w hw) (by first | exact Sees.root (by assumption) w hw | exact Sees.own (by repeat (first | exact List.mem_cons_self | exact List.mem_append_left _ (by assumption) | apply List.mem_cons_of_mem | apply List.mem_append_right)) w hw) (by first | exact Sees.root (by assumption) w hw | exact Sees.own (by repeat (first | exact List.mem_cons_self | exact List.mem_append_left _ (by assumption) | apply List.mem_cons_of_mem | apply List.mem_append_right)) w hw) (by first | exact Rws.root (by assumption) hw | exact Rws.own (by repeat (first | exact RowsIn.here | exact RowsIn.last | apply RowsIn.there | apply RowsIn.thereS)) hw) (by first | exact Sees.root (by assumption) w hw | exact Sees.own (by repeat (first | exact List.mem_cons_self | exact List.mem_append_left _ (by assumption) | apply List.mem_cons_of_mem | apply List.mem_append_right)) w hw) (by first | exact Sees.root (by assumption) w hw | exact Sees.own (by repeat (first | exact List.mem_cons_self | exact List.mem_append_left _ (by assumption) | apply List.mem_cons_of_mem | apply List.mem_append_right)) w hw) (by assumption) (by assumption) (by assumption) (by assumption) (by assumption) (by assumption) (by omega)))) ?_
          refine SW.r rfl (.inl rfl) rfl (by decide) (yr_not rfl rfl) ?_
          refine SW.done ?_
          refine VE.then_wp ?_
          refine V.cond rfl (fun h5 => ?_) (fun h5 => ?_)
          · skip
            replace h5 := bnot_t h5
            first | (exfalso; omega) | (simp [bcmp] at h5; done)
          · skip
            replace h5 := bnot_f h5
            refine V.skip ?_
            refine VE.then_wp ?_
            refine V.seq ?_
            refine V.region ?_
            refine VL.r (.inl rfl) rfl (by decide) (yr_assign (u := .int .i64 1) rfl rfl) ?_
            refine VL.nil ?_
            refine VE.then_wp ?_
            refine V.seq ?_
            refine V.region ?_
            refine VL.q (.inl rfl) rfl (by decide) (yq_loadS rfl Try.underlying30 sz30_Block rfl (by first | exact Sees.root (by assumption) | exact Sees.own (by repeat (first | exact List.mem_cons_self | exact List.mem_append_left _ (by assumption) | apply List.mem_cons_of_mem | apply List.mem_append_right)) | exact Sees.root (hR _ (by omega)) | exact Sees.own (RowsIn.mem (by repeat (first | exact RowsIn.here | exact RowsIn.last | apply RowsIn.there | apply RowsIn.thereS)) _ (by omega))) rfl rfl rfl) ?_
            refine VL.r (.inl rfl) rfl (by decide) (yr_move rfl rfl) ?_
            refine VL.c (.inl rfl) rfl (by decide) (yc_callf rfl known33_Block (.cons rfl (.cons rfl .nil)) (by apply Pick.four; all_goals (repeat (first | exact Rem.here | exact Rem.all | exact Rem.hereS | apply Rem.there | apply Rem.thereS))) (c_markDesign (by omega) (by omega) (by omega))) ?_
            rintro ⟨⟩
            refine VL.r (.inl rfl) rfl (by decide) (yr_assign rfl rfl) ?_
            refine VL.nil ?_
            refine VE.then_wp ?_
            refine V.seq ?_
            refine V.seq ?_
            refine V.region ?_
            refine VL.r (.inl rfl) rfl (by decide) (yr_move rfl rfl) ?_
            refine VL.r (.inl rfl) rfl (by decide) (yr_icmp rfl (.inr (.inr (.inl rfl))) rfl rfl) ?_
            refine VL.r (.inl rfl) rfl (by decide) (yr_move rfl rfl) ?_
            refine VX.split 66 _ rfl (fun h6 => ?_) (fun h6 => ?_)
            · skip
              replace h6 := ic_lss h6
              first | (exfalso; omega) | (simp [bcmp] at h6; done)
            · skip
              replace h6 := ic_lss' h6
              refine VL.r (.inr ⟨_, _, _, rfl, rfl, rfl⟩) rfl (by decide) (yr_move rfl rfl) ?_
              refine VL.r (.inr ⟨_, _, _, rfl, rfl, rfl⟩) rfl (by decide) (yr_move rfl rfl) ?_
              refine VL.q (.inr ⟨_, _, _, rfl, rfl, rfl⟩) rfl (by decide) (yq_callf rfl known22_Block (.cons rfl (.cons rfl .nil)) (fun w hw => c_eqF (by first | exact Sees.root (by assumption) w hw | exact Sees.own (by repeat (first | exact List.mem_cons_self | exact List.mem_append_left _ (by assumption) | apply List.mem_cons_of_mem | apply List.mem_append_right)) w hw) (by first | exact Sees.root (by assumption) w hw | exact Sees.own (by repeat (first | exact List.mem_cons_self | exact List.mem_append_left _ (by assumption) | apply List.mem_cons_of_mem | apply List.mem_append_right)) w hw) (by first | assumption | exact can_up _ | exact can_fop _ _ _ _ | exact can_of _ (by assumption)) (by first | assumption | exact can_up _ | exact can_fop _ _ _ _ | exact can_of _ (by assumption)) (by omega))) ?_
              refine VL.r (.inr ⟨_, _, _, rfl, rfl, rfl⟩) rfl (by decide) (yr_not rfl rfl) ?_
              refine VL.r (.inl rfl) rfl (by decide) (yr_pick_f rfl rfl rfl) ?_
              refine VL.r (.inl rfl) rfl (by decide) (yr_move rfl rfl) ?_
              refine VX.split 72 _ rfl (fun h7 => ?_) (fun h7 => ?_)
              · skip
                replace h7 := bnot_t h7
                first | (exfalso; omega) | (simp [bcmp] at h7; done)
              · skip
                replace h7 := bnot_f h7
                refine VL.r (.inr ⟨_, _, _, rfl, rfl, rfl⟩) rfl (by decide) (yr_move rfl rfl) ?_
                refine VL.r (.inr ⟨_, _, _, rfl, rfl, rfl⟩) rfl (by decide) (yr_move rfl rfl) ?_
                refine VL.q (.inr ⟨_, _, _, rfl, rfl, rfl⟩) rfl (by decide) (yq_callf rfl known22_Block (.cons rfl (.cons rfl .nil)) (fun w hw => c_eqF (by first | exact Sees.root (by assumption) w hw | exact Sees.own (by repeat (first | exact List.mem_cons_self | exact List.mem_append_left _ (by assumption) | apply List.mem_cons_of_mem | apply List.mem_append_right)) w hw) (by first | exact Sees.root (by assumption) w hw | exact Sees.own (by repeat (first | exact List.mem_cons_self | exact List.mem_append_left _ (by assumption) | apply List.mem_cons_of_mem | apply List.mem_append_right)) w hw) (by first | assumption | exact can_up _ | exact can_fop _ _ _ _ | exact can_of _ (by assumption)) (by first | assumption | exact can_up _ | exact can_fop _ _ _ _ | exact can_of _ (by assumption)) (by omega))) ?_
                refine VL.r (.inr ⟨_, _, _, rfl, rfl, rfl⟩) rfl (by decide) (yr_not rfl rfl) ?_
                refine VL.r (.inl rfl) rfl (by decide) (yr_pick_f rfl rfl rfl) ?_
                refine VL.r (.inl rfl) rfl (by decide) (yr_move rfl rfl) ?_
                refine VX.split 78 _ rfl (fun h8 => ?_) (fun h8 => ?_)
                · skip
                  replace h8 := bnot_t h8
                  first | (exfalso; omega) | (simp [bcmp] at h8; done)
                · skip
                  replace h8 := bnot_f h8
                  refine VL.r (.inr ⟨_, _, _, rfl, rfl, rfl⟩) rfl (by decide) (yr_move rfl rfl) ?_
                  refine VL.r (.inr ⟨_, _, _, rfl, rfl, rfl⟩) rfl (by decide) (yr_move rfl rfl) ?_
                  refine VL.r (.inr ⟨_, _, _, rfl, rfl, rfl⟩) rfl (by decide) (yr_bcmp rfl Try.underlying4 rfl rfl (.inr rfl)) ?_
                  refine VL.r (.inl rfl) rfl (by decide) (yr_pick_f rfl rfl rfl) ?_
                  refine VL.nil ?_
                  refine VE.then_wp ?_
                  refine V.cond rfl (fun h9 => ?_) (fun h9 => ?_)
                  · skip
                    first | (exfalso; omega) | (simp [bcmp] at h9; done)
                  · skip
                    refine V.skip ?_
                    refine VE.then_wp ?_
                    refine V.seq ?_
                    refine V.region ?_
                    refine VL.r (.inl rfl) rfl (by decide) (yr_assign (u := .int .i64 1) rfl rfl) ?_
                    refine VL.nil ?_
                    refine VE.then_wp ?_
                    refine V.seq ?_
                    refine V.region ?_
                    refine VL.r (.inl rfl) rfl (by decide) (yr_move rfl rfl) ?_
                    refine VL.r (.inl rfl) rfl (by decide) (yr_move rfl rfl) ?_
                    refine VL.c (.inl rfl) rfl (by decide) (yc_callf rfl known29_Block (.cons rfl (.cons rfl .nil)) (by apply Pick.one; repeat (first | exact Rem.here | apply Rem.there | apply Rem.thereS)) (c_markF (by omega) (by omega) (by omega))) ?_
                    rintro ⟨⟩
                    refine VL.r (.inl rfl) rfl (by decide) (yr_assign rfl rfl) ?_
                    refine VL.nil ?_
                    refine VE.then_wp ?_
                    refine V.seq ?_
                    refine V.region ?_
                    refine VL.r (.inl rfl) rfl (by decide) (yr_move rfl rfl) ?_
                    refine VL.r (.inl rfl) rfl (by decide) (yr_move rfl rfl) ?_
                    refine VL.c (.inl rfl) rfl (by decide) (yc_callf rfl known29_Block (.cons rfl (.cons rfl .nil)) (by apply Pick.one; repeat (first | exact Rem.here | apply Rem.there | apply Rem.thereS)) (c_markF (by omega) (by omega) (by omega))) ?_
                    rintro ⟨⟩
                    refine VL.r (.inl rfl) rfl (by decide) (yr_assign rfl rfl) ?_
                    refine VL.nil ?_
                    refine VE.then_wp ?_
                    refine V.seq ?_
                    refine V.region ?_
                    refine VL.r (.inl rfl) rfl (by decide) (yr_assign (u := .int .i64 1) rfl rfl) ?_
                    refine VL.nil ?_
                    refine VE.then_wp ?_
                    refine V.seq ?_
                    refine V.region ?_
                    refine VL.r (.inl rfl) rfl (by decide) (yr_move rfl rfl) ?_
                    refine VL.r (.inl rfl) rfl (by decide) (yr_move rfl rfl) ?_
                    refine VL.q (.inl rfl) rfl (by decide) (yq_callf rfl known30_Block (.cons rfl (.cons rfl .nil)) (fun w hw => c_heldF (by first | exact Sees.root (by assumption) w hw | exact Sees.own (by repeat (first | exact List.mem_cons_self | exact List.mem_append_left _ (by assumption) | apply List.mem_cons_of_mem | apply List.mem_append_right)) w hw) (by omega) (by omega) (by omega))) ?_
                    refine VL.r (.inl rfl) rfl (by decide) (yr_assign rfl rfl) ?_
                    refine VL.nil ?_
                    refine VE.then_wp ?_
                    refine V.seq ?_
                    refine V.seq ?_
                    refine V.region ?_
                    refine VL.r (.inl rfl) rfl (by decide) (yr_move rfl rfl) ?_
                    refine VL.r (.inl rfl) rfl (by decide) (yr_icmp rfl (.inr (.inr (.inl rfl))) rfl rfl) ?_
                    refine VL.nil ?_
                    refine VE.then_wp ?_
                    refine V.cond rfl (fun h10 => ?_) (fun h10 => ?_)
                    · skip
                      replace h10 := ic_lss h10
                      first | (exfalso; omega) | (simp [bcmp] at h10; done)
                    · skip
                      replace h10 := ic_lss' h10
                      refine V.skip ?_
                      refine VE.then_wp ?_
                      refine V.seq ?_
                      refine V.region ?_
                      refine VL.r (.inl rfl) rfl (by decide) (yr_move rfl rfl) ?_
                      refine VL.r (.inl rfl) rfl (by decide) (yr_move rfl rfl) ?_
                      refine VL.q (.inl rfl) rfl (by decide) (yq_callf rfl known30_Block (.cons rfl (.cons rfl .nil)) (fun w hw => c_heldF (by first | exact Sees.root (by assumption) w hw | exact Sees.own (by repeat (first | exact List.mem_cons_self | exact List.mem_append_left _ (by assumption) | apply List.mem_cons_of_mem | apply List.mem_append_right)) w hw) (by omega) (by omega) (by omega))) ?_
                      refine VL.r (.inl rfl) rfl (by decide) (yr_assign rfl rfl) ?_
                      refine VL.nil ?_
                      refine VE.then_wp ?_
                      refine V.seq ?_
                      refine V.seq ?_
                      refine V.region ?_
                      refine VL.r (.inl rfl) rfl (by decide) (yr_move rfl rfl) ?_
                      refine VL.r (.inl rfl) rfl (by decide) (yr_icmp rfl (.inr (.inr (.inl rfl))) rfl rfl) ?_
                      refine VL.nil ?_
                      refine VE.then_wp ?_
                      refine V.cond rfl (fun h11 => ?_) (fun h11 => ?_)
                      · skip
                        replace h11 := ic_lss h11
                        first | (exfalso; omega) | (simp [bcmp] at h11; done)
                      · skip
                        replace h11 := ic_lss' h11
                        refine V.skip ?_
                        refine VE.then_wp ?_
                        refine V.seq ?_
                        refine V.seq ?_
                        refine V.region ?_
                        refine VL.r (.inl rfl) rfl (by decide) (yr_move rfl rfl) ?_
                        refine VL.r (.inl rfl) rfl (by decide) (yr_move rfl rfl) ?_
                        refine VL.r (.inl rfl) rfl (by decide) (yr_icmp rfl (.inr (.inl rfl)) rfl rfl) ?_
                        refine VL.nil ?_
                        refine VE.then_wp ?_
                        refine V.cond rfl (fun h12 => ?_) (fun h12 => ?_)
                        · skip
                          replace h12 := ic_neq h12
                          first | (exfalso; omega) | (simp [bcmp] at h12; done)
                        · skip
                          replace h12 := ic_neq' h12
                          refine V.skip ?_
                          refine VE.then_wp ?_
                          refine V.seq ?_
                          refine V.region ?_
                          refine VL.q (.inl rfl) rfl (by decide) (yq_loadS rfl Try.underlying25 sz25_Block rfl (by first | exact Sees.root (by assumption) | exact Sees.own (by repeat (first | exact List.mem_cons_self | exact List.mem_append_left _ (by assumption) | apply List.mem_cons_of_mem | apply List.mem_append_right)) | exact Sees.root (hR _ (by omega)) | exact Sees.own (RowsIn.mem (by repeat (first | exact RowsIn.here | exact RowsIn.last | apply RowsIn.there | apply RowsIn.thereS)) _ (by omega))) rfl rfl rfl) ?_
                          refine VL.new (.inl rfl) rfl (by decide) (yn_callf rfl known17_Block (.cons rfl .nil) (fun w hw => (c_toDesign (by first | exact Sees.root (by assumption) w hw | exact Sees.own (by repeat (first | exact List.mem_cons_self | exact List.mem_append_left _ (by assumption) | apply List.mem_cons_of_mem | apply List.mem_append_right)) w hw) (by first | exact Rws.root (by assumption) hw | exact Rws.own (by repeat (first | exact RowsIn.here | exact RowsIn.last | apply RowsIn.there | apply RowsIn.thereS)) hw) (by first | exact Sees.root (by assumption) w hw | exact Sees.own (by repeat (first | exact List.mem_cons_self | exact List.mem_append_left _ (by assumption) | apply List.mem_cons_of_mem | apply List.mem_append_right)) w hw) (by first | exact Sees.root (by assumption) w hw | exact Sees.own (by repeat (first | exact List.mem_cons_self | exact List.mem_append_left _ (by assumption) | apply List.mem_cons_of_mem | apply List.mem_append_right)) w hw) (by omega)))) ?_
                          rintro ⟨⟨b104, f104⟩, ⟨a104, c104⟩, ⟨d104, e104⟩⟩
                          refine VL.r (.inl rfl) rfl (by decide) (yr_move rfl rfl) ?_
                          refine VL.new (.inl rfl) rfl (by decide) (yn_callf rfl known32_Block (.cons rfl (.cons rfl .nil)) (fun w hw => (c_implBlock (by first | exact Sees.root (by assumption) w hw | exact Sees.own (by repeat (first | exact List.mem_cons_self | exact List.mem_append_left _ (by assumption) | apply List.mem_cons_of_mem | apply List.mem_append_right)) w hw) (by first | exact Rws.root (by assumption) hw | exact Rws.own (by repeat (first | exact RowsIn.here | exact RowsIn.last | apply RowsIn.there | apply RowsIn.thereS)) hw) (by first | exact Sees.root (by assumption) w hw | exact Sees.own (by repeat (first | exact List.mem_cons_self | exact List.mem_append_left _ (by assumption) | apply List.mem_cons_of_mem | apply List.mem_append_right)) w hw) (by first | exact Sees.root (by assumption) w hw | exact Sees.own (by repeat (first | exact List.mem_cons_self | exact List.mem_append_left _ (by assumption) | apply List.mem_cons_of_mem | apply List.mem_append_right)) w hw) (by omega)))) ?_
                          rintro ⟨⟨a106, c106⟩, ⟨d106, e106⟩⟩
                          refine VL.r (.inl rfl) rfl (by decide) (yr_move rfl rfl) ?_
                          refine VL.r (.inl rfl) rfl (by decide) (yr_extract rfl rfl rfl (by nofun)) ?_
                          refine VL.r (.inl rfl) rfl (by decide) (yr_extract rfl rfl rfl (by nofun)) ?_
                          refine VL.r (.inl rfl) rfl (by decide) (yr_extract rfl rfl rfl (by nofun)) ?_
                          refine VL.r (.inl rfl) rfl (by decide) (yr_assign rfl rfl) ?_
                          refine VL.r (.inl rfl) rfl (by decide) (yr_assign rfl rfl) ?_
                          refine VL.r (.inl rfl) rfl (by decide) (yr_assign rfl rfl) ?_
                          refine VL.nil ?_
                          refine VE.then_wp ?_
                          refine V.seq ?_
                          refine V.seq ?_
                          refine V.region ?_
                          refine VL.r (.inl rfl) rfl (by decide) (yr_move rfl rfl) ?_
                          refine VL.r (.inl rfl) rfl (by decide) (yr_move rfl rfl) ?_
                          refine VL.q (.inl rfl) rfl (by decide) (yq_callf rfl known22_Block (.cons rfl (.cons rfl .nil)) (fun w hw => c_eqF (by first | exact Sees.root (by assumption) w hw | exact Sees.own (by repeat (first | exact List.mem_cons_self | exact List.mem_append_left _ (by assumption) | apply List.mem_cons_of_mem | apply List.mem_append_right)) w hw) (by first | exact Sees.root (by assumption) w hw | exact Sees.own (by repeat (first | exact List.mem_cons_self | exact List.mem_append_left _ (by assumption) | apply List.mem_cons_of_mem | apply List.mem_append_right)) w hw) (by first | assumption | exact can_up _ | exact can_fop _ _ _ _ | exact can_of _ (by assumption)) (by first | assumption | exact can_up _ | exact can_fop _ _ _ _ | exact can_of _ (by assumption)) (by omega))) ?_
                          refine VL.r (.inl rfl) rfl (by decide) (yr_not rfl rfl) ?_
                          refine VL.r (.inl rfl) rfl (by decide) (yr_move rfl rfl) ?_
                          refine VX.split 114 _ rfl (fun h13 => ?_) (fun h13 => ?_)
                          · skip
                            replace h13 := bnot_t h13
                            first | (exfalso; omega) | (simp [bcmp] at h13; done)
                          · skip
                            replace h13 := bnot_f h13
                            refine VL.r (.inr ⟨_, _, _, rfl, rfl, rfl⟩) rfl (by decide) (yr_move rfl rfl) ?_
                            refine VL.r (.inr ⟨_, _, _, rfl, rfl, rfl⟩) rfl (by decide) (yr_move rfl rfl) ?_
                            refine VL.q (.inr ⟨_, _, _, rfl, rfl, rfl⟩) rfl (by decide) (yq_callf rfl known22_Block (.cons rfl (.cons rfl .nil)) (fun w hw => c_eqF (by first | exact Sees.root (by assumption) w hw | exact Sees.own (by repeat (first | exact List.mem_cons_self | exact List.mem_append_left _ (by assumption) | apply List.mem_cons_of_mem | apply List.mem_append_right)) w hw) (by first | exact Sees.root (by assumption) w hw | exact Sees.own (by repeat (first | exact List.mem_cons_self | exact List.mem_append_left _ (by assumption) | apply List.mem_cons_of_mem | apply List.mem_append_right)) w hw) (by first | assumption | exact can_up _ | exact can_fop _ _ _ _ | exact can_of _ (by assumption)) (by first | assumption | exact can_up _ | exact can_fop _ _ _ _ | exact can_of _ (by assumption)) (by omega))) ?_
                            refine VL.r (.inr ⟨_, _, _, rfl, rfl, rfl⟩) rfl (by decide) (yr_not rfl rfl) ?_
                            refine VL.r (.inl rfl) rfl (by decide) (yr_pick_f rfl rfl rfl) ?_
                            refine VL.r (.inl rfl) rfl (by decide) (yr_move rfl rfl) ?_
                            refine VX.split 120 _ rfl (fun h14 => ?_) (fun h14 => ?_)
                            · skip
                              replace h14 := bnot_t h14
                              first | (exfalso; omega) | (simp [bcmp] at h14; done)
                            · skip
                              replace h14 := bnot_f h14
                              refine VL.r (.inr ⟨_, _, _, rfl, rfl, rfl⟩) rfl (by decide) (yr_move rfl rfl) ?_
                              refine VL.r (.inr ⟨_, _, _, rfl, rfl, rfl⟩) rfl (by decide) (yr_move rfl rfl) ?_
                              refine VL.r (.inr ⟨_, _, _, rfl, rfl, rfl⟩) rfl (by decide) (yr_bcmp rfl Try.underlying4 rfl rfl (.inr rfl)) ?_
                              refine VL.r (.inl rfl) rfl (by decide) (yr_pick_f rfl rfl rfl) ?_
                              refine VL.nil ?_
                              refine VE.then_wp ?_
                              refine V.cond rfl (fun h15 => ?_) (fun h15 => ?_)
                              · skip
                                first | (exfalso; omega) | (simp [bcmp] at h15; done)
                              · skip
                                refine V.skip ?_
                                refine VE.then_wp ?_
                                refine V.seq ?_
                                refine V.region ?_
                                refine VL.r (.inl rfl) rfl (by decide) (yr_assign (u := .int .i64 1) rfl rfl) ?_
                                refine VL.nil ?_
                                refine VE.then_wp ?_
                                refine V.seq ?_
                                refine V.region ?_
                                refine VL.r (.inl rfl) rfl (by decide) (yr_move rfl rfl) ?_
                                refine VL.r (.inl rfl) rfl (by decide) (yr_move rfl rfl) ?_
                                refine VL.q (.inl rfl) rfl (by decide) (yq_callf rfl known30_Block (.cons rfl (.cons rfl .nil)) (fun w hw => c_heldF (by first | exact Sees.root (by assumption) w hw | exact Sees.own (by repeat (first | exact List.mem_cons_self | exact List.mem_append_left _ (by assumption) | apply List.mem_cons_of_mem | apply List.mem_append_right)) w hw) (by omega) (by omega) (by omega))) ?_
                                refine VL.r (.inl rfl) rfl (by decide) (yr_assign rfl rfl) ?_
                                refine VL.nil ?_
                                refine VE.then_wp ?_
                                refine V.seq ?_
                                refine V.seq ?_
                                refine V.region ?_
                                refine VL.r (.inl rfl) rfl (by decide) (yr_move rfl rfl) ?_
                                refine VL.r (.inl rfl) rfl (by decide) (yr_icmp rfl (.inr (.inr (.inl rfl))) rfl rfl) ?_
                                refine VL.nil ?_
                                refine VE.then_wp ?_
                                refine V.cond rfl (fun h16 => ?_) (fun h16 => ?_)
                                · skip
                                  replace h16 := ic_lss h16
                                  first | (exfalso; omega) | (simp [bcmp] at h16; done)
                                · skip
                                  replace h16 := ic_lss' h16
                                  refine V.skip ?_
                                  refine VE.then_wp ?_
                                  refine V.seq ?_
                                  refine V.region ?_
                                  refine VL.r (.inl rfl) rfl (by decide) (yr_move rfl rfl) ?_
                                  refine VL.r (.inl rfl) rfl (by decide) (yr_move rfl rfl) ?_
                                  refine VL.q (.inl rfl) rfl (by decide) (yq_callf rfl known30_Block (.cons rfl (.cons rfl .nil)) (fun w hw => c_heldF (by first | exact Sees.root (by assumption) w hw | exact Sees.own (by repeat (first | exact List.mem_cons_self | exact List.mem_append_left _ (by assumption) | apply List.mem_cons_of_mem | apply List.mem_append_right)) w hw) (by omega) (by omega) (by omega))) ?_
                                  refine VL.r (.inl rfl) rfl (by decide) (yr_assign rfl rfl) ?_
                                  refine VL.nil ?_
                                  refine VE.then_wp ?_
                                  refine V.seq ?_
                                  refine V.seq ?_
                                  refine V.region ?_
                                  refine VL.r (.inl rfl) rfl (by decide) (yr_move rfl rfl) ?_
                                  refine VL.r (.inl rfl) rfl (by decide) (yr_icmp rfl (.inr (.inr (.inl rfl))) rfl rfl) ?_
                                  refine VL.nil ?_
                                  refine VE.then_wp ?_
                                  refine V.cond rfl (fun h17 => ?_) (fun h17 => ?_)
                                  · skip
                                    replace h17 := ic_lss h17
                                    first | (exfalso; omega) | (simp [bcmp] at h17; done)
                                  · skip
                                    replace h17 := ic_lss' h17
                                    refine V.skip ?_
                                    refine VE.then_wp ?_
                                    refine V.seq ?_
                                    refine V.seq ?_
                                    refine V.region ?_
                                    refine VL.r (.inl rfl) rfl (by decide) (yr_move rfl rfl) ?_
                                    refine VL.r (.inl rfl) rfl (by decide) (yr_move rfl rfl) ?_
                                    refine VL.r (.inl rfl) rfl (by decide) (yr_icmp rfl (.inr (.inl rfl)) rfl rfl) ?_
                                    refine VL.nil ?_
                                    refine VE.then_wp ?_
                                    refine V.cond rfl (fun h18 => ?_) (fun h18 => ?_)
                                    · skip
                                      replace h18 := ic_neq h18
                                      first | (exfalso; omega) | (simp [bcmp] at h18; done)
                                    · skip
                                      replace h18 := ic_neq' h18
                                      refine V.skip ?_
                                      refine VE.then_wp ?_
                                      refine V.seq ?_
                                      refine V.region ?_
                                      refine VL.r (.inl rfl) rfl (by decide) (yr_assign (u := .bool true) rfl rfl) ?_
                                      refine VL.nil ?_
                                      refine VE.then_wp ?_
                                      refine V.ret ?_
                                      refine ret1 rfl rfl (fun w1 hw => ?_)
                                      exact ⟨rfl, hw.below⟩

end Go.Proofs.Ytcimhmnbemgpoaa
