/- Walks: Chol. Printed by gen.py. -/
import Derived.Test.YtbdbjeaaoaohlaaWSolve
import Derived.Test.YtbdbjeaaoaohlaaChol
import Derived.KernelRfl
namespace Go.Proofs.Ytbdbjeaaoaohlaa
open Go.RowKit
set_option linter.unusedVariables false
set_option linter.unusedSimpArgs false
set_option maxRecDepth 20000

theorem ext75_Chol : ExtF Try.prog 75 Extern.MathSqrt.sqrt := ⟨_, Try.func75, by kernel_rfl, by kernel_rfl, by kernel_rfl, by kernel_rfl⟩
theorem known68_Chol : Known Try.prog 68 := Known.mk' Try.func68 (by kernel_rfl)
theorem known74_Chol : Known Try.prog 74 := Known.mk' Try.func74 (by kernel_rfl)
theorem elt23_Chol : Elt Try.prog 23 [Value.float .f32 0] 4 := Elt.mk' (by kernel_rfl) (by decide)
theorem sz23_Chol : (Try.prog.info? 23).map (·.size) = some 1 := by kernel_rfl
theorem fb23_Chol : flatB Try.prog 23 = true := by kernel_rfl
theorem mixed_Chol : Try.prog.follows .mixedOrders = true := by kernel_rfl
theorem known67_Chol : Known Try.prog 67 := Known.mk' Try.func67 (by kernel_rfl)
theorem known32_Chol : Known Try.prog 32 := Known.mk' Try.func32 (by kernel_rfl)
theorem known50_Chol : Known Try.prog 50 := Known.mk' Try.func50 (by kernel_rfl)
theorem known34_Chol : Known Try.prog 34 := Known.mk' Try.func34 (by kernel_rfl)
theorem known51_Chol : Known Try.prog 51 := Known.mk' Try.func51 (by kernel_rfl)
theorem known10_Chol : Known Try.prog 10 := Known.mk' Try.func10 (by kernel_rfl)
theorem known24_Chol : Known Try.prog 24 := Known.mk' Try.func24 (by kernel_rfl)
theorem known25_Chol : Known Try.prog 25 := Known.mk' Try.func25 (by kernel_rfl)
theorem known12_Chol : Known Try.prog 12 := Known.mk' Try.func12 (by kernel_rfl)
theorem known13_Chol : Known Try.prog 13 := Known.mk' Try.func13 (by kernel_rfl)
theorem known14_Chol : Known Try.prog 14 := Known.mk' Try.func14 (by kernel_rfl)

theorem c_Sqrt {w : World} (x : Nat) : Pure Try.prog 68 [.float .f64 x] w (.float .f64 (fsqrt x)) := by
  refine Pure.enter Try.func68 rfl Try.ntmps68 (Nat.le_of_ble_eq_true rfl) ?_
  refine V.seq ?_
  refine V.region ?_
  refine VL.r (.inl rfl) rfl (by decide) (yr_assign (u := .float .f64 0) rfl rfl) ?_
  refine VL.nil ?_
  refine VE.then_wp ?_
  refine V.seq ?_
  refine V.region ?_
  refine VL.r (.inl rfl) rfl (by decide) (yr_move rfl rfl) ?_
  refine VL.q (.inl rfl) rfl (by decide) (yq_ext rfl ext75_Chol (.cons rfl .nil) (fun vs w h => ext_sqrt vs w h)) ?_
  refine VL.r (.inl rfl) rfl (by decide) (yr_assign rfl rfl) ?_
  refine VL.nil ?_
  refine VE.then_wp ?_
  refine V.ret ?_
  refine ret1 rfl rfl (fun w1 hw => ?_)
  exact ⟨rfl, hw.below⟩

theorem c_RootNumber {w : World} (x : Nat) : Pure Try.prog 51 [.float .f32 x] w (.float .f32 (sqrt32 x)) := by
  refine Pure.enter Try.func51 rfl Try.ntmps51 (Nat.le_of_ble_eq_true rfl) ?_
  refine V.seq ?_
  refine V.region ?_
  refine VL.r (.inl rfl) rfl (by decide) (yr_assign (u := .float .f32 0) rfl rfl) ?_
  refine VL.nil ?_
  refine VE.then_wp ?_
  refine V.seq ?_
  refine V.region ?_
  refine VL.r (.inl rfl) rfl (by decide) (yr_move rfl rfl) ?_
  refine VL.r (.inl rfl) rfl (by decide) (yr_fconv rfl Try.underlying23 Try.underlying46 (by decide) rfl (fover_up _)) ?_
  refine VL.q (.inl rfl) rfl (by decide) (yq_callf rfl known68_Chol (.cons rfl .nil) (fun w hw => c_Sqrt _)) ?_
  refine VL.r (.inl rfl) rfl (by decide) (yr_fconv rfl Try.underlying46 Try.underlying23 (by decide) rfl (fover_sqrt _)) ?_
  refine VL.r (.inl rfl) rfl (by decide) (yr_assign rfl rfl) ?_
  refine VL.nil ?_
  refine VE.then_wp ?_
  refine V.ret ?_
  refine ret1 rfl rfl (fun w1 hw => ?_)
  exact ⟨rfl, hw.below⟩

theorem c_l01Narrow {w : World} {x : Nat} (hx : fover .f64 .f32 x = false) : Pure Try.prog 74 [.float .f64 x] w (.float .f32 (fconv .f64 .f32 x)) := by
  refine Pure.enter Try.func74 rfl Try.ntmps74 (Nat.le_of_ble_eq_true rfl) ?_
  refine V.seq ?_
  refine V.region ?_
  refine VL.r (.inl rfl) rfl (by decide) (yr_assign (u := .float .f32 0) rfl rfl) ?_
  refine VL.nil ?_
  refine VE.then_wp ?_
  refine V.seq ?_
  refine V.region ?_
  refine VL.r (.inl rfl) rfl (by decide) (yr_move rfl rfl) ?_
  refine VL.r (.inl rfl) rfl (by decide) (yr_fconv rfl Try.underlying46 Try.underlying23 (by decide) rfl hx) ?_
  refine VL.r (.inl rfl) rfl (by decide) (yr_assign rfl rfl) ?_
  refine VL.nil ?_
  refine VE.then_wp ?_
  refine V.ret ?_
  refine ret1 rfl rfl (fun w1 hw => ?_)
  exact ⟨rfl, hw.below⟩

theorem c_l01Sqrt {w : World} (x : Nat) : Pure Try.prog 67 [.float .f32 x] w (.float .f32 (sqrt32 x)) := by
  refine Pure.enter Try.func67 rfl Try.ntmps67 (Nat.le_of_ble_eq_true rfl) ?_
  refine V.seq ?_
  refine V.region ?_
  refine VL.r (.inl rfl) rfl (by decide) (yr_assign (u := .float .f32 0) rfl rfl) ?_
  refine VL.nil ?_
  refine VE.then_wp ?_
  refine V.seq ?_
  refine V.region ?_
  refine VL.r (.inl rfl) rfl (by decide) (yr_move rfl rfl) ?_
  refine VL.r (.inl rfl) rfl (by decide) (yr_fconv rfl Try.underlying23 Try.underlying46 (by decide) rfl (fover_up _)) ?_
  refine VL.q (.inl rfl) rfl (by decide) (yq_callf rfl known68_Chol (.cons rfl .nil) (fun w hw => c_Sqrt _)) ?_
  refine VL.q (.inl rfl) rfl (by decide) (yq_callf rfl known74_Chol (.cons rfl .nil) (fun w hw => c_l01Narrow (fover_sqrt _))) ?_
  refine VL.r (.inl rfl) rfl (by decide) (yr_assign rfl rfl) ?_
  refine VL.nil ?_
  refine VE.then_wp ?_
  refine V.ret ?_
  refine ret1 rfl rfl (fun w1 hw => ?_)
  exact ⟨rfl, hw.below⟩

theorem c_l07Cholesky {w : World} {a : Option Addr} {c n : Nat} {xs : List Nat} (hA : Cl w a (fl xs)) (hxs : xs.length = n * n) (hn8 : n ≤ 8) (hn0 : n ≠ 0) : New Try.prog 50 [.slice a xs.length c, .int .i64 (n : Int)] w (fun p : Option Addr × Nat => .tuple #[.slice p.1 (cholOf xs n).length p.2, .bool (cholOk xs n)]) (fun p => [⟨p.1, fl (cholOf xs n), p.2 * 1, 23⟩]) := by
  have hnn : n * n ≤ 64 := Nat.mul_le_mul hn8 hn8
  have hix : ∀ {j k : Nat}, j < n → k < n → j * n + k < n * n := idx_lt
  refine New.enter Try.func50 rfl Try.ntmps50 (Nat.le_of_ble_eq_true rfl) ?_
  refine V.seq ?_
  refine V.region ?_
  refine VL.r (.inl rfl) rfl (by decide) (yr_assign (u := .slice none 0 0) rfl rfl) ?_
  refine VL.r (.inl rfl) rfl (by decide) (yr_assign (u := .bool false) rfl rfl) ?_
  refine VL.nil ?_
  refine VE.then_wp ?_
  refine V.seq ?_
  refine V.region ?_
  refine VL.r (.inl rfl) rfl (by decide) (yr_move rfl rfl) ?_
  refine VL.r (.inl rfl) rfl (by decide) (yr_move rfl rfl) ?_
  refine VL.r (.inl rfl) rfl (by decide) (yr_mulN n n rfl rfl rfl (by omega) (by omega) (Nat.le_trans (mul_small (by omega) (by omega)) (by decide))) ?_
  refine VL.new1 (.inl rfl) rfl (by decide) (yn_makeSlicez 1 rfl rfl Try.underlying22 elt23_Chol rfl rfl rfl (by omega) (by omega)) ?_
  intro b16
  refine VL.r (.inl rfl) rfl (by decide) (yr_assign rfl rfl) ?_
  refine VL.nil ?_
  refine VE.then_wp ?_
  refine V.seq ?_
  refine V.seq ?_
  refine V.region ?_
  refine VL.r (.inl rfl) rfl (by decide) (yr_assign (u := .int .i64 0) rfl rfl) ?_
  refine VL.nil ?_
  refine VE.then_wp ?_
  refine V.block ?_
  refine V.loopc (G := Nat × (List Nat)) [(0, _), (1, _), (6, _)] (fun ⟨j, l⟩ => j ≤ n ∧ l.length = n * n ∧ l = chol xs n j ∧ ∀ t, t < j → fcmp .gtr .f32 (cS xs (chol xs n t) n t t) 0 = true) (fun ⟨j, l⟩ => [⟨some ⟨b16, 0, none⟩, fl l, n * n * 1, 23⟩]) (fun ⟨j, l⟩ => [(7, .int .i64 (j : Int))]) (fun ⟨j, l⟩ => n - j) (0, List.replicate (n * n) 0) (.cons rfl (.cons rfl (.cons rfl .nil))) (.cons rfl .nil) ?_ ?_ ?_
  · exact (fun w hw => by rw [fl_zeros] at hw; exact hw)
  · exact (by exact ⟨by omega, by simp, rfl, fun t h => by omega⟩)
  rintro ⟨j, l⟩ ⟨hj, hll, hl, hc⟩
  show V _ _ _ [⟨some ⟨b16, 0, none⟩, fl l, n * n * 1, 23⟩] ([(7, .int .i64 (j : Int))] ++ [(0, _), (1, _), (6, _)]) _ _
  have hjj : j < n → j * n + j < n * n := fun h => hix h h
  refine V.seq ?_
  refine V.seq ?_
  refine V.region ?_
  refine VL.r (.inl rfl) rfl (by decide) (yr_move rfl rfl) ?_
  refine VL.r (.inl rfl) rfl (by decide) (yr_move rfl rfl) ?_
  refine VL.r (.inl rfl) rfl (by decide) (yr_icmp rfl (.inr (.inr (.inl rfl))) rfl rfl) ?_
  refine VL.nil ?_
  refine VE.then_wp ?_
  refine V.cond rfl (fun h1 => ?_) (fun h1 => ?_)
  · skip
    replace h1 := ic_lss h1
    refine V.skip ?_
    refine VE.then_wp ?_
    refine V.seq ?_
    refine V.block ?_
    refine V.seq ?_
    refine V.region ?_
    refine VL.r (.inl rfl) rfl (by decide) (yr_move rfl rfl) ?_
    refine VL.r (.inl rfl) rfl (by decide) (yr_move rfl rfl) ?_
    refine VL.r (.inl rfl) rfl (by decide) (yr_move rfl rfl) ?_
    refine VL.r (.inl rfl) rfl (by decide) (yr_mulN j n rfl rfl rfl (by omega) (by omega) (Nat.le_trans (mul_small (by omega) (by omega)) (by decide))) ?_
    refine VL.r (.inl rfl) rfl (by decide) (yr_move rfl rfl) ?_
    refine VL.r (.inl rfl) rfl (by decide) (yr_int rfl rfl rfl (.inl ⟨rfl, wrap_in (by omega)⟩)) ?_
    refine VL.q (.inl rfl) rfl (by decide) (yq_idx (k := ((j * n) + j)) rfl Try.underlying22 sz23_Chol rfl rfl (by first | exact Sees.root (by assumption) | exact Sees.at 0 rfl | exact Sees.at 1 rfl | exact Sees.at 2 rfl | exact Sees.at 3 rfl | exact Sees.at 4 rfl | exact Sees.at 5 rfl | exact Sees.at 6 rfl | exact Sees.at 7 rfl | exact Sees.at 8 rfl | exact Sees.at 9 rfl | exact Sees.at 10 rfl | exact Sees.at 11 rfl | exact Sees.at 12 rfl | exact Sees.at 13 rfl | exact Sees.at 14 rfl | exact Sees.at 15 rfl | exact Sees.at 16 rfl | exact Sees.at 17 rfl | exact Sees.at 18 rfl | exact Sees.at 19 rfl | exact Sees.own (List.mem_append.2 (.inr (.head _)))) (by first | rfl | omega | (push_cast; rfl) | (push_cast; omega)) (by first | exact fl_length _ | (rw [fl_length]; omega)) (by omega)) ?_
    refine VL.q (.inl rfl) rfl (by decide) (yq_loadF rfl fb23_Chol rfl (by first | exact Sees.root (by assumption) | exact Sees.at 0 rfl | exact Sees.at 1 rfl | exact Sees.at 2 rfl | exact Sees.at 3 rfl | exact Sees.at 4 rfl | exact Sees.at 5 rfl | exact Sees.at 6 rfl | exact Sees.at 7 rfl | exact Sees.at 8 rfl | exact Sees.at 9 rfl | exact Sees.at 10 rfl | exact Sees.at 11 rfl | exact Sees.at 12 rfl | exact Sees.at 13 rfl | exact Sees.at 14 rfl | exact Sees.at 15 rfl | exact Sees.at 16 rfl | exact Sees.at 17 rfl | exact Sees.at 18 rfl | exact Sees.at 19 rfl | exact Sees.own (List.mem_append.2 (.inr (.head _)))) (by omega)) ?_
    refine VL.r (.inl rfl) rfl (by decide) (yr_assign rfl rfl) ?_
    refine VL.nil ?_
    refine VE.then_wp ?_
    refine V.seq ?_
    refine V.seq ?_
    refine V.region ?_
    refine VL.r (.inl rfl) rfl (by decide) (yr_assign (u := .int .i64 0) rfl rfl) ?_
    refine VL.nil ?_
    refine VE.then_wp ?_
    refine V.block ?_
    refine V.loops (G := Nat) [(0, _), (1, _), (6, _), (7, _)] (fun (k : Nat) => k ≤ j) (fun (k : Nat) => [(8, .float .f32 (cS xs l n j k)), (9, .int .i64 (k : Int))]) (fun (k : Nat) => j - k) 0 (.cons rfl (.cons rfl (.cons rfl (.cons rfl .nil)))) (.cons rfl (.cons rfl .nil)) ?_ ?_
    · exact (by omega)
    rintro k hk
    show V _ _ _ _ ([(8, .float .f32 (cS xs l n j k)), (9, .int .i64 (k : Int))] ++ [(0, _), (1, _), (6, _), (7, _)]) _ _
    have hjk : j < n → k < j → j * n + k < n * n := fun h g => hix h (by omega)
    refine V.seq ?_
    refine V.seq ?_
    refine V.region ?_
    refine VL.r (.inl rfl) rfl (by decide) (yr_move rfl rfl) ?_
    refine VL.r (.inl rfl) rfl (by decide) (yr_move rfl rfl) ?_
    refine VL.r (.inl rfl) rfl (by decide) (yr_icmp rfl (.inr (.inr (.inl rfl))) rfl rfl) ?_
    refine VL.nil ?_
    refine VE.then_wp ?_
    refine V.cond rfl (fun h2 => ?_) (fun h2 => ?_)
    · skip
      replace h2 := ic_lss h2
      refine V.skip ?_
      refine VE.then_wp ?_
      refine V.seq ?_
      refine V.block ?_
      refine V.draw [(0, 0), (1, 0), (2, 0), (3, 0), (4, 0), (5, 0), (6, 0), (7, 0), (8, 0), (9, 0), (10, 0), (11, 0), (12, 0), (13, 0), (14, 0), (15, 0), (16, 0), (17, 0), (18, 0), (19, 0)] mixed_Chol (by kernel_rfl) (by intro j o hj; simp at hj) ?_
      refine SW.r rfl (.inl rfl) rfl (by decide) (yr_move rfl rfl) ?_
      refine SW.r rfl (.inl rfl) rfl (by decide) (yr_move rfl rfl) ?_
      refine SW.r rfl (.inl rfl) rfl (by decide) (yr_move rfl rfl) ?_
      refine SW.r rfl (.inl rfl) rfl (by decide) (yr_move rfl rfl) ?_
      refine SW.r rfl (.inl rfl) rfl (by decide) (yr_mulN j n rfl rfl rfl (by omega) (by omega) (Nat.le_trans (mul_small (by omega) (by omega)) (by decide))) ?_
      refine SW.r rfl (.inl rfl) rfl (by decide) (yr_move rfl rfl) ?_
      refine SW.r rfl (.inl rfl) rfl (by decide) (yr_int rfl rfl rfl (.inl ⟨rfl, wrap_in (by omega)⟩)) ?_
      refine SW.q rfl (.inl rfl) rfl (by decide) (yq_idx (k := ((j * n) + k)) rfl Try.underlying22 sz23_Chol rfl rfl (by first | exact Sees.root (by assumption) | exact Sees.at 0 rfl | exact Sees.at 1 rfl | exact Sees.at 2 rfl | exact Sees.at 3 rfl | exact Sees.at 4 rfl | exact Sees.at 5 rfl | exact Sees.at 6 rfl | exact Sees.at 7 rfl | exact Sees.at 8 rfl | exact Sees.at 9 rfl | exact Sees.at 10 rfl | exact Sees.at 11 rfl | exact Sees.at 12 rfl | exact Sees.at 13 rfl | exact Sees.at 14 rfl | exact Sees.at 15 rfl | exact Sees.at 16 rfl | exact Sees.at 17 rfl | exact Sees.at 18 rfl | exact Sees.at 19 rfl | exact Sees.own (List.mem_append.2 (.inr (.head _)))) (by first | rfl | omega | (push_cast; rfl) | (push_cast; omega)) (by first | exact fl_length _ | (rw [fl_length]; omega)) (by omega)) ?_
      refine SW.q rfl (.inl rfl) rfl (by decide) (yq_loadF rfl fb23_Chol rfl (by first | exact Sees.root (by assumption) | exact Sees.at 0 rfl | exact Sees.at 1 rfl | exact Sees.at 2 rfl | exact Sees.at 3 rfl | exact Sees.at 4 rfl | exact Sees.at 5 rfl | exact Sees.at 6 rfl | exact Sees.at 7 rfl | exact Sees.at 8 rfl | exact Sees.at 9 rfl | exact Sees.at 10 rfl | exact Sees.at 11 rfl | exact Sees.at 12 rfl | exact Sees.at 13 rfl | exact Sees.at 14 rfl | exact Sees.at 15 rfl | exact Sees.at 16 rfl | exact Sees.at 17 rfl | exact Sees.at 18 rfl | exact Sees.at 19 rfl | exact Sees.own (List.mem_append.2 (.inr (.head _)))) (by omega)) ?_
      refine SW.r rfl (.inl rfl) rfl (by decide) (yr_move rfl rfl) ?_
      refine SW.r rfl (.inl rfl) rfl (by decide) (yr_move rfl rfl) ?_
      refine SW.r rfl (.inl rfl) rfl (by decide) (yr_move rfl rfl) ?_
      refine SW.r rfl (.inl rfl) rfl (by decide) (yr_mulN j n rfl rfl rfl (by omega) (by omega) (Nat.le_trans (mul_small (by omega) (by omega)) (by decide))) ?_
      refine SW.r rfl (.inl rfl) rfl (by decide) (yr_move rfl rfl) ?_
      refine SW.r rfl (.inl rfl) rfl (by decide) (yr_int rfl rfl rfl (.inl ⟨rfl, wrap_in (by omega)⟩)) ?_
      refine SW.q rfl (.inl rfl) rfl (by decide) (yq_idx (k := ((j * n) + k)) rfl Try.underlying22 sz23_Chol rfl rfl (by first | exact Sees.root (by assumption) | exact Sees.at 0 rfl | exact Sees.at 1 rfl | exact Sees.at 2 rfl | exact Sees.at 3 rfl | exact Sees.at 4 rfl | exact Sees.at 5 rfl | exact Sees.at 6 rfl | exact Sees.at 7 rfl | exact Sees.at 8 rfl | exact Sees.at 9 rfl | exact Sees.at 10 rfl | exact Sees.at 11 rfl | exact Sees.at 12 rfl | exact Sees.at 13 rfl | exact Sees.at 14 rfl | exact Sees.at 15 rfl | exact Sees.at 16 rfl | exact Sees.at 17 rfl | exact Sees.at 18 rfl | exact Sees.at 19 rfl | exact Sees.own (List.mem_append.2 (.inr (.head _)))) (by first | rfl | omega | (push_cast; rfl) | (push_cast; omega)) (by first | exact fl_length _ | (rw [fl_length]; omega)) (by omega)) ?_
      refine SW.q rfl (.inl rfl) rfl (by decide) (yq_loadF rfl fb23_Chol rfl (by first | exact Sees.root (by assumption) | exact Sees.at 0 rfl | exact Sees.at 1 rfl | exact Sees.at 2 rfl | exact Sees.at 3 rfl | exact Sees.at 4 rfl | exact Sees.at 5 rfl | exact Sees.at 6 rfl | exact Sees.at 7 rfl | exact Sees.at 8 rfl | exact Sees.at 9 rfl | exact Sees.at 10 rfl | exact Sees.at 11 rfl | exact Sees.at 12 rfl | exact Sees.at 13 rfl | exact Sees.at 14 rfl | exact Sees.at 15 rfl | exact Sees.at 16 rfl | exact Sees.at 17 rfl | exact Sees.at 18 rfl | exact Sees.at 19 rfl | exact Sees.own (List.mem_append.2 (.inr (.head _)))) (by omega)) ?_
      refine SW.r rfl (.inl rfl) rfl (by decide) (yr_float rfl (.inr (.inr (.inl rfl))) rfl rfl) ?_
      refine SW.r rfl (.inl rfl) rfl (by decide) (yr_float rfl (.inr (.inl rfl)) rfl rfl) ?_
      refine SW.r rfl (.inl rfl) rfl (by decide) (yr_assign rfl rfl) ?_
      refine SW.done ?_
      refine VE.block_normal ?_
      refine VE.then_wp ?_
      refine V.region ?_
      refine VL.r (.inl rfl) rfl (by decide) (yr_move rfl rfl) ?_
      refine VL.r (.inl rfl) rfl (by decide) (yr_int rfl rfl rfl (.inl ⟨rfl, wrap_in (by omega)⟩)) ?_
      refine VL.r (.inl rfl) rfl (by decide) (yr_assign rfl rfl) ?_
      refine VL.nil ?_
      refine VE.round (k + 1) ?_ ?_ ?_ ?_ ?_
      · exact (.cons rfl (.cons rfl .nil))
      · exact (.cons rfl (.cons rfl (.cons rfl (.cons rfl .nil))))
      · exact (fun w hw => hw)
      · omega
      · (try dsimp only); omega
    · skip
      replace h2 := ic_lss' h2
      refine V.exit ?_
      refine VE.then_exit ?_
      refine VE.then_exit ?_
      refine VE.block_here ?_
      refine VE.then_wp ?_
      refine V.seq ?_
      refine V.seq ?_
      refine V.region ?_
      refine VL.r (.inl rfl) rfl (by decide) (yr_move rfl rfl) ?_
      refine VL.r (.inl rfl) rfl (by decide) (yr_fcmp (b := 0) rfl (.inr (.inr (.inr (.inr (.inl rfl))))) rfl rfl) ?_
      refine VL.r (.inl rfl) rfl (by decide) (yr_not rfl rfl) ?_
      refine VL.nil ?_
      refine VE.then_wp ?_
      refine V.cond rfl (fun h3 => ?_) (fun h3 => ?_)
      · skip
        replace h3 := bnot_t h3
        refine V.seq ?_
        refine V.region ?_
        refine VL.r (.inl rfl) rfl (by decide) (yr_assign (u := .slice none 0 0) rfl rfl) ?_
        refine VL.r (.inl rfl) rfl (by decide) (yr_assign (u := .bool false) rfl rfl) ?_
        refine VL.nil ?_
        refine VE.then_wp ?_
        refine V.ret ?_
        refine VE.then_ret ?_
        refine VE.block_ret ?_
        refine VE.then_ret ?_
        refine VE.then_ret ?_
        refine VE.block_ret ?_
        refine VE.then_ret ?_
        refine ret2 rfl rfl rfl (by nofun) (by nofun) (fun w1 hw => ?_)
        obtain rfl : k = j := by omega
        have hs : cholOk xs n = false := chol_no1 (j := k) (by omega) (by rw [← hl]; assumption)
        exact ⟨(none, 0), by rw [cholOf_no hs, hs]; rfl, hw.below, by rw [cholOf_no hs]; simp [fl, Ent.at], List.pairwise_singleton _ _⟩
      · skip
        replace h3 := bnot_f h3
        refine V.skip ?_
        refine VE.then_wp ?_
        refine V.seq ?_
        refine V.region ?_
        refine VL.r (.inl rfl) rfl (by decide) (yr_move rfl rfl) ?_
        refine VL.r (.inl rfl) rfl (by decide) (yr_move rfl rfl) ?_
        refine VL.r (.inl rfl) rfl (by decide) (yr_move rfl rfl) ?_
        refine VL.r (.inl rfl) rfl (by decide) (yr_mulN j n rfl rfl rfl (by omega) (by omega) (Nat.le_trans (mul_small (by omega) (by omega)) (by decide))) ?_
        refine VL.r (.inl rfl) rfl (by decide) (yr_move rfl rfl) ?_
        refine VL.r (.inl rfl) rfl (by decide) (yr_int rfl rfl rfl (.inl ⟨rfl, wrap_in (by omega)⟩)) ?_
        refine VL.r (.inl rfl) rfl (by decide) (yr_move rfl rfl) ?_
        refine VL.q (.inl rfl) rfl (by decide) (yq_callf rfl known67_Chol (.cons rfl .nil) (fun w hw => c_l01Sqrt _)) ?_
        refine VL.q (.inl rfl) rfl (by decide) (yq_idx (k := ((j * n) + j)) rfl Try.underlying22 sz23_Chol rfl rfl (by first | exact Sees.root (by assumption) | exact Sees.at 0 rfl | exact Sees.at 1 rfl | exact Sees.at 2 rfl | exact Sees.at 3 rfl | exact Sees.at 4 rfl | exact Sees.at 5 rfl | exact Sees.at 6 rfl | exact Sees.at 7 rfl | exact Sees.at 8 rfl | exact Sees.at 9 rfl | exact Sees.at 10 rfl | exact Sees.at 11 rfl | exact Sees.at 12 rfl | exact Sees.at 13 rfl | exact Sees.at 14 rfl | exact Sees.at 15 rfl | exact Sees.at 16 rfl | exact Sees.at 17 rfl | exact Sees.at 18 rfl | exact Sees.at 19 rfl | exact Sees.own (List.mem_append.2 (.inr (.head _)))) (by first | rfl | omega | (push_cast; rfl) | (push_cast; omega)) (by first | exact fl_length _ | (rw [fl_length]; omega)) (by omega)) ?_
        refine VL.s (.inl rfl) rfl (yc_store rfl sz23_Chol rfl rfl (by first | exact .here | exact .there .here | exact .there (.there .here) | exact .there (.there (.there .here)) | exact .there (.there (.there (.there .here))) | exact .there (.there (.there (.there (.there .here)))) | exact .there (.there (.there (.there (.there (.there .here))))) | exact .there (.there (.there (.there (.there (.there (.there .here)))))) | exact .there (.there (.there (.there (.there (.there (.there (.there .here))))))) | exact .there (.there (.there (.there (.there (.there (.there (.there (.there .here)))))))) | exact .thereS .here) (.inl ⟨rfl, rfl⟩) rfl (by rw [fl_length]; omega) (by decide) (fl_set _ _ _)) ?_
        rintro ⟨⟩
        refine VL.nil ?_
        refine VE.then_wp ?_
        refine V.seq ?_
        refine V.region ?_
        refine VL.r (.inl rfl) rfl (by decide) (yr_move rfl rfl) ?_
        refine VL.r (.inl rfl) rfl (by decide) (yr_int rfl rfl rfl (.inl ⟨rfl, wrap_in (by omega)⟩)) ?_
        refine VL.r (.inl rfl) rfl (by decide) (yr_assign rfl rfl) ?_
        refine VL.nil ?_
        refine VE.then_wp ?_
        refine V.block ?_
        refine V.loopc (G := Nat × (List Nat)) [(0, _), (1, _), (6, _), (7, _)] (fun ⟨c, m⟩ => j + 1 + c ≤ n ∧ m.length = n * n ∧ m = cCol xs n j (l.set (j * n + j) (sqrt32 (cS xs l n j j))) c) (fun ⟨c, m⟩ => [⟨some ⟨b16, 0, none⟩, fl m, n * n * 1, 23⟩]) (fun ⟨c, m⟩ => [(10, .int .i64 ((j + 1 + c : Nat) : Int))]) (fun ⟨c, m⟩ => n - (j + 1 + c)) (0, l.set (j * n + j) (sqrt32 (cS xs l n j k))) (.cons rfl (.cons rfl (.cons rfl (.cons rfl .nil)))) (.cons (congrArg (fun i => some (Value.int .i64 i)) (by omega)) .nil) ?_ ?_ ?_
        · exact (fun w hw => hw)
        · exact (by obtain rfl : k = j := (by omega); exact ⟨by omega, by simp [hll], rfl⟩)
        rintro ⟨c, m⟩ ⟨hcn, hml, hm⟩
        show V _ _ _ [⟨some ⟨b16, 0, none⟩, fl m, n * n * 1, 23⟩] ([(10, .int .i64 ((j + 1 + c : Nat) : Int))] ++ [(0, _), (1, _), (6, _), (7, _)]) _ _
        have hij : j + 1 + c < n → (j + 1 + c) * n + j < n * n := fun h => hix h (by omega)
        refine V.seq ?_
        refine V.seq ?_
        refine V.region ?_
        refine VL.r (.inl rfl) rfl (by decide) (yr_move rfl rfl) ?_
        refine VL.r (.inl rfl) rfl (by decide) (yr_move rfl rfl) ?_
        refine VL.r (.inl rfl) rfl (by decide) (yr_icmp rfl (.inr (.inr (.inl rfl))) rfl rfl) ?_
        refine VL.nil ?_
        refine VE.then_wp ?_
        refine V.cond rfl (fun h4 => ?_) (fun h4 => ?_)
        · skip
          replace h4 := ic_lss h4
          refine V.skip ?_
          refine VE.then_wp ?_
          refine V.seq ?_
          refine V.block ?_
          refine V.seq ?_
          refine V.region ?_
          refine VL.r (.inl rfl) rfl (by decide) (yr_move rfl rfl) ?_
          refine VL.r (.inl rfl) rfl (by decide) (yr_move rfl rfl) ?_
          refine VL.r (.inl rfl) rfl (by decide) (yr_move rfl rfl) ?_
          refine VL.r (.inl rfl) rfl (by decide) (yr_mulN (j + 1 + c) n rfl rfl rfl (by omega) (by omega) (Nat.le_trans (mul_small (by omega) (by omega)) (by decide))) ?_
          refine VL.r (.inl rfl) rfl (by decide) (yr_move rfl rfl) ?_
          refine VL.r (.inl rfl) rfl (by decide) (yr_int rfl rfl rfl (.inl ⟨rfl, wrap_in (by omega)⟩)) ?_
          refine VL.q (.inl rfl) rfl (by decide) (yq_idx (k := (((j + 1 + c) * n) + j)) rfl Try.underlying22 sz23_Chol rfl rfl (by first | exact Sees.root (by assumption) | exact Sees.at 0 rfl | exact Sees.at 1 rfl | exact Sees.at 2 rfl | exact Sees.at 3 rfl | exact Sees.at 4 rfl | exact Sees.at 5 rfl | exact Sees.at 6 rfl | exact Sees.at 7 rfl | exact Sees.at 8 rfl | exact Sees.at 9 rfl | exact Sees.at 10 rfl | exact Sees.at 11 rfl | exact Sees.at 12 rfl | exact Sees.at 13 rfl | exact Sees.at 14 rfl | exact Sees.at 15 rfl | exact Sees.at 16 rfl | exact Sees.at 17 rfl | exact Sees.at 18 rfl | exact Sees.at 19 rfl | exact Sees.own (List.mem_append.2 (.inr (.head _)))) (by first | rfl | omega | (push_cast; rfl) | (push_cast; omega)) (by first | exact fl_length _ | (rw [fl_length]; omega)) (by omega)) ?_
          refine VL.q (.inl rfl) rfl (by decide) (yq_loadF rfl fb23_Chol rfl (by first | exact Sees.root (by assumption) | exact Sees.at 0 rfl | exact Sees.at 1 rfl | exact Sees.at 2 rfl | exact Sees.at 3 rfl | exact Sees.at 4 rfl | exact Sees.at 5 rfl | exact Sees.at 6 rfl | exact Sees.at 7 rfl | exact Sees.at 8 rfl | exact Sees.at 9 rfl | exact Sees.at 10 rfl | exact Sees.at 11 rfl | exact Sees.at 12 rfl | exact Sees.at 13 rfl | exact Sees.at 14 rfl | exact Sees.at 15 rfl | exact Sees.at 16 rfl | exact Sees.at 17 rfl | exact Sees.at 18 rfl | exact Sees.at 19 rfl | exact Sees.own (List.mem_append.2 (.inr (.head _)))) (by omega)) ?_
          refine VL.r (.inl rfl) rfl (by decide) (yr_assign rfl rfl) ?_
          refine VL.nil ?_
          refine VE.then_wp ?_
          refine V.seq ?_
          refine V.seq ?_
          refine V.region ?_
          refine VL.r (.inl rfl) rfl (by decide) (yr_assign (u := .int .i64 0) rfl rfl) ?_
          refine VL.nil ?_
          refine VE.then_wp ?_
          refine V.block ?_
          refine V.loops (G := Nat) [(0, _), (1, _), (6, _), (7, _), (10, _)] (fun (q : Nat) => q ≤ j) (fun (q : Nat) => [(11, .float .f32 (cX xs m n (j + 1 + c) j q)), (12, .int .i64 (q : Int))]) (fun (q : Nat) => j - q) 0 (.cons rfl (.cons rfl (.cons rfl (.cons rfl (.cons rfl .nil))))) (.cons rfl (.cons rfl .nil)) ?_ ?_
          · exact (by omega)
          rintro q hq
          show V _ _ _ _ ([(11, .float .f32 (cX xs m n (j + 1 + c) j q)), (12, .int .i64 (q : Int))] ++ [(0, _), (1, _), (6, _), (7, _), (10, _)]) _ _
          have hjq : j < n → q < j → j * n + q < n * n := fun h g => hix h (by omega)
          have hiq : j + 1 + c < n → q < j → (j + 1 + c) * n + q < n * n := fun h g => hix h (by omega)
          refine V.seq ?_
          refine V.seq ?_
          refine V.region ?_
          refine VL.r (.inl rfl) rfl (by decide) (yr_move rfl rfl) ?_
          refine VL.r (.inl rfl) rfl (by decide) (yr_move rfl rfl) ?_
          refine VL.r (.inl rfl) rfl (by decide) (yr_icmp rfl (.inr (.inr (.inl rfl))) rfl rfl) ?_
          refine VL.nil ?_
          refine VE.then_wp ?_
          refine V.cond rfl (fun h5 => ?_) (fun h5 => ?_)
          · skip
            replace h5 := ic_lss h5
            refine V.skip ?_
            refine VE.then_wp ?_
            refine V.seq ?_
            refine V.block ?_
            refine V.draw [(0, 0), (1, 0), (2, 0), (3, 0), (4, 0), (5, 0), (6, 0), (7, 0), (8, 0), (9, 0), (10, 0), (11, 0), (12, 0), (13, 0), (14, 0), (15, 0), (16, 0), (17, 0), (18, 0), (19, 0)] mixed_Chol (by kernel_rfl) (by intro j o hj; simp at hj) ?_
            refine SW.r rfl (.inl rfl) rfl (by decide) (yr_move rfl rfl) ?_
            refine SW.r rfl (.inl rfl) rfl (by decide) (yr_move rfl rfl) ?_
            refine SW.r rfl (.inl rfl) rfl (by decide) (yr_move rfl rfl) ?_
            refine SW.r rfl (.inl rfl) rfl (by decide) (yr_move rfl rfl) ?_
            refine SW.r rfl (.inl rfl) rfl (by decide) (yr_mulN (j + 1 + c) n rfl rfl rfl (by omega) (by omega) (Nat.le_trans (mul_small (by omega) (by omega)) (by decide))) ?_
            refine SW.r rfl (.inl rfl) rfl (by decide) (yr_move rfl rfl) ?_
            refine SW.r rfl (.inl rfl) rfl (by decide) (yr_int rfl rfl rfl (.inl ⟨rfl, wrap_in (by omega)⟩)) ?_
            refine SW.q rfl (.inl rfl) rfl (by decide) (yq_idx (k := (((j + 1 + c) * n) + q)) rfl Try.underlying22 sz23_Chol rfl rfl (by first | exact Sees.root (by assumption) | exact Sees.at 0 rfl | exact Sees.at 1 rfl | exact Sees.at 2 rfl | exact Sees.at 3 rfl | exact Sees.at 4 rfl | exact Sees.at 5 rfl | exact Sees.at 6 rfl | exact Sees.at 7 rfl | exact Sees.at 8 rfl | exact Sees.at 9 rfl | exact Sees.at 10 rfl | exact Sees.at 11 rfl | exact Sees.at 12 rfl | exact Sees.at 13 rfl | exact Sees.at 14 rfl | exact Sees.at 15 rfl | exact Sees.at 16 rfl | exact Sees.at 17 rfl | exact Sees.at 18 rfl | exact Sees.at 19 rfl | exact Sees.own (List.mem_append.2 (.inr (.head _)))) (by first | rfl | omega | (push_cast; rfl) | (push_cast; omega)) (by first | exact fl_length _ | (rw [fl_length]; omega)) (by omega)) ?_
            refine SW.q rfl (.inl rfl) rfl (by decide) (yq_loadF rfl fb23_Chol rfl (by first | exact Sees.root (by assumption) | exact Sees.at 0 rfl | exact Sees.at 1 rfl | exact Sees.at 2 rfl | exact Sees.at 3 rfl | exact Sees.at 4 rfl | exact Sees.at 5 rfl | exact Sees.at 6 rfl | exact Sees.at 7 rfl | exact Sees.at 8 rfl | exact Sees.at 9 rfl | exact Sees.at 10 rfl | exact Sees.at 11 rfl | exact Sees.at 12 rfl | exact Sees.at 13 rfl | exact Sees.at 14 rfl | exact Sees.at 15 rfl | exact Sees.at 16 rfl | exact Sees.at 17 rfl | exact Sees.at 18 rfl | exact Sees.at 19 rfl | exact Sees.own (List.mem_append.2 (.inr (.head _)))) (by omega)) ?_
            refine SW.r rfl (.inl rfl) rfl (by decide) (yr_move rfl rfl) ?_
            refine SW.r rfl (.inl rfl) rfl (by decide) (yr_move rfl rfl) ?_
            refine SW.r rfl (.inl rfl) rfl (by decide) (yr_move rfl rfl) ?_
            refine SW.r rfl (.inl rfl) rfl (by decide) (yr_mulN j n rfl rfl rfl (by omega) (by omega) (Nat.le_trans (mul_small (by omega) (by omega)) (by decide))) ?_
            refine SW.r rfl (.inl rfl) rfl (by decide) (yr_move rfl rfl) ?_
            refine SW.r rfl (.inl rfl) rfl (by decide) (yr_int rfl rfl rfl (.inl ⟨rfl, wrap_in (by omega)⟩)) ?_
            refine SW.q rfl (.inl rfl) rfl (by decide) (yq_idx (k := ((j * n) + q)) rfl Try.underlying22 sz23_Chol rfl rfl (by first | exact Sees.root (by assumption) | exact Sees.at 0 rfl | exact Sees.at 1 rfl | exact Sees.at 2 rfl | exact Sees.at 3 rfl | exact Sees.at 4 rfl | exact Sees.at 5 rfl | exact Sees.at 6 rfl | exact Sees.at 7 rfl | exact Sees.at 8 rfl | exact Sees.at 9 rfl | exact Sees.at 10 rfl | exact Sees.at 11 rfl | exact Sees.at 12 rfl | exact Sees.at 13 rfl | exact Sees.at 14 rfl | exact Sees.at 15 rfl | exact Sees.at 16 rfl | exact Sees.at 17 rfl | exact Sees.at 18 rfl | exact Sees.at 19 rfl | exact Sees.own (List.mem_append.2 (.inr (.head _)))) (by first | rfl | omega | (push_cast; rfl) | (push_cast; omega)) (by first | exact fl_length _ | (rw [fl_length]; omega)) (by omega)) ?_
            refine SW.q rfl (.inl rfl) rfl (by decide) (yq_loadF rfl fb23_Chol rfl (by first | exact Sees.root (by assumption) | exact Sees.at 0 rfl | exact Sees.at 1 rfl | exact Sees.at 2 rfl | exact Sees.at 3 rfl | exact Sees.at 4 rfl | exact Sees.at 5 rfl | exact Sees.at 6 rfl | exact Sees.at 7 rfl | exact Sees.at 8 rfl | exact Sees.at 9 rfl | exact Sees.at 10 rfl | exact Sees.at 11 rfl | exact Sees.at 12 rfl | exact Sees.at 13 rfl | exact Sees.at 14 rfl | exact Sees.at 15 rfl | exact Sees.at 16 rfl | exact Sees.at 17 rfl | exact Sees.at 18 rfl | exact Sees.at 19 rfl | exact Sees.own (List.mem_append.2 (.inr (.head _)))) (by omega)) ?_
            refine SW.r rfl (.inl rfl) rfl (by decide) (yr_float rfl (.inr (.inr (.inl rfl))) rfl rfl) ?_
            refine SW.r rfl (.inl rfl) rfl (by decide) (yr_float rfl (.inr (.inl rfl)) rfl rfl) ?_
            refine SW.r rfl (.inl rfl) rfl (by decide) (yr_assign rfl rfl) ?_
            refine SW.done ?_
            refine VE.block_normal ?_
            refine VE.then_wp ?_
            refine V.region ?_
            refine VL.r (.inl rfl) rfl (by decide) (yr_move rfl rfl) ?_
            refine VL.r (.inl rfl) rfl (by decide) (yr_int rfl rfl rfl (.inl ⟨rfl, wrap_in (by omega)⟩)) ?_
            refine VL.r (.inl rfl) rfl (by decide) (yr_assign rfl rfl) ?_
            refine VL.nil ?_
            refine VE.round (q + 1) ?_ ?_ ?_ ?_ ?_
            · exact (.cons rfl (.cons rfl .nil))
            · exact (.cons rfl (.cons rfl (.cons rfl (.cons rfl (.cons rfl .nil)))))
            · exact (fun w hw => hw)
            · omega
            · (try dsimp only); omega
          · skip
            replace h5 := ic_lss' h5
            refine V.exit ?_
            refine VE.then_exit ?_
            refine VE.then_exit ?_
            refine VE.block_here ?_
            refine VE.then_wp ?_
            refine V.region ?_
            refine VL.r (.inl rfl) rfl (by decide) (yr_move rfl rfl) ?_
            refine VL.r (.inl rfl) rfl (by decide) (yr_move rfl rfl) ?_
            refine VL.r (.inl rfl) rfl (by decide) (yr_move rfl rfl) ?_
            refine VL.r (.inl rfl) rfl (by decide) (yr_mulN (j + 1 + c) n rfl rfl rfl (by omega) (by omega) (Nat.le_trans (mul_small (by omega) (by omega)) (by decide))) ?_
            refine VL.r (.inl rfl) rfl (by decide) (yr_move rfl rfl) ?_
            refine VL.r (.inl rfl) rfl (by decide) (yr_int rfl rfl rfl (.inl ⟨rfl, wrap_in (by omega)⟩)) ?_
            refine VL.r (.inl rfl) rfl (by decide) (yr_move rfl rfl) ?_
            refine VL.r (.inl rfl) rfl (by decide) (yr_move rfl rfl) ?_
            refine VL.r (.inl rfl) rfl (by decide) (yr_move rfl rfl) ?_
            refine VL.r (.inl rfl) rfl (by decide) (yr_move rfl rfl) ?_
            refine VL.r (.inl rfl) rfl (by decide) (yr_mulN j n rfl rfl rfl (by omega) (by omega) (Nat.le_trans (mul_small (by omega) (by omega)) (by decide))) ?_
            refine VL.r (.inl rfl) rfl (by decide) (yr_move rfl rfl) ?_
            refine VL.r (.inl rfl) rfl (by decide) (yr_int rfl rfl rfl (.inl ⟨rfl, wrap_in (by omega)⟩)) ?_
            refine VL.q (.inl rfl) rfl (by decide) (yq_idx (k := ((j * n) + j)) rfl Try.underlying22 sz23_Chol rfl rfl (by first | exact Sees.root (by assumption) | exact Sees.at 0 rfl | exact Sees.at 1 rfl | exact Sees.at 2 rfl | exact Sees.at 3 rfl | exact Sees.at 4 rfl | exact Sees.at 5 rfl | exact Sees.at 6 rfl | exact Sees.at 7 rfl | exact Sees.at 8 rfl | exact Sees.at 9 rfl | exact Sees.at 10 rfl | exact Sees.at 11 rfl | exact Sees.at 12 rfl | exact Sees.at 13 rfl | exact Sees.at 14 rfl | exact Sees.at 15 rfl | exact Sees.at 16 rfl | exact Sees.at 17 rfl | exact Sees.at 18 rfl | exact Sees.at 19 rfl | exact Sees.own (List.mem_append.2 (.inr (.head _)))) (by first | rfl | omega | (push_cast; rfl) | (push_cast; omega)) (by first | exact fl_length _ | (rw [fl_length]; omega)) (by omega)) ?_
            refine VL.q (.inl rfl) rfl (by decide) (yq_loadF rfl fb23_Chol rfl (by first | exact Sees.root (by assumption) | exact Sees.at 0 rfl | exact Sees.at 1 rfl | exact Sees.at 2 rfl | exact Sees.at 3 rfl | exact Sees.at 4 rfl | exact Sees.at 5 rfl | exact Sees.at 6 rfl | exact Sees.at 7 rfl | exact Sees.at 8 rfl | exact Sees.at 9 rfl | exact Sees.at 10 rfl | exact Sees.at 11 rfl | exact Sees.at 12 rfl | exact Sees.at 13 rfl | exact Sees.at 14 rfl | exact Sees.at 15 rfl | exact Sees.at 16 rfl | exact Sees.at 17 rfl | exact Sees.at 18 rfl | exact Sees.at 19 rfl | exact Sees.own (List.mem_append.2 (.inr (.head _)))) (by omega)) ?_
            refine VL.r (.inl rfl) rfl (by decide) (yr_float rfl (.inr (.inr (.inr rfl))) rfl rfl) ?_
            refine VL.q (.inl rfl) rfl (by decide) (yq_idx (k := (((j + 1 + c) * n) + j)) rfl Try.underlying22 sz23_Chol rfl rfl (by first | exact Sees.root (by assumption) | exact Sees.at 0 rfl | exact Sees.at 1 rfl | exact Sees.at 2 rfl | exact Sees.at 3 rfl | exact Sees.at 4 rfl | exact Sees.at 5 rfl | exact Sees.at 6 rfl | exact Sees.at 7 rfl | exact Sees.at 8 rfl | exact Sees.at 9 rfl | exact Sees.at 10 rfl | exact Sees.at 11 rfl | exact Sees.at 12 rfl | exact Sees.at 13 rfl | exact Sees.at 14 rfl | exact Sees.at 15 rfl | exact Sees.at 16 rfl | exact Sees.at 17 rfl | exact Sees.at 18 rfl | exact Sees.at 19 rfl | exact Sees.own (List.mem_append.2 (.inr (.head _)))) (by first | rfl | omega | (push_cast; rfl) | (push_cast; omega)) (by first | exact fl_length _ | (rw [fl_length]; omega)) (by omega)) ?_
            refine VL.s (.inl rfl) rfl (yc_store rfl sz23_Chol rfl rfl (by first | exact .here | exact .there .here | exact .there (.there .here) | exact .there (.there (.there .here)) | exact .there (.there (.there (.there .here))) | exact .there (.there (.there (.there (.there .here)))) | exact .there (.there (.there (.there (.there (.there .here))))) | exact .there (.there (.there (.there (.there (.there (.there .here)))))) | exact .there (.there (.there (.there (.there (.there (.there (.there .here))))))) | exact .there (.there (.there (.there (.there (.there (.there (.there (.there .here)))))))) | exact .thereS .here) (.inl ⟨rfl, rfl⟩) rfl (by rw [fl_length]; omega) (by decide) (fl_set _ _ _)) ?_
            rintro ⟨⟩
            refine VL.nil ?_
            refine VE.block_normal ?_
            refine VE.then_wp ?_
            refine V.region ?_
            refine VL.r (.inl rfl) rfl (by decide) (yr_move rfl rfl) ?_
            refine VL.r (.inl rfl) rfl (by decide) (yr_int rfl rfl rfl (.inl ⟨rfl, wrap_in (by omega)⟩)) ?_
            refine VL.r (.inl rfl) rfl (by decide) (yr_assign rfl rfl) ?_
            refine VL.nil ?_
            refine VE.round (c + 1, m.set ((j + 1 + c) * n + j) (fop .quo .f32 (cX xs m n (j + 1 + c) j q) (m.getD (j * n + j) 0))) ?_ ?_ ?_ ?_ ?_
            · exact (.cons (congrArg (fun i => some (Value.int .i64 i)) (by omega)) .nil)
            · exact (.cons rfl (.cons rfl (.cons rfl (.cons rfl .nil))))
            · exact (fun w hw => hw)
            · obtain rfl : q = j := by omega
              refine ⟨by omega, by simp [hml], ?_⟩
              rw [cCol, ← hm]
            · (try dsimp only); omega
        · skip
          replace h4 := ic_lss' h4
          refine V.exit ?_
          refine VE.then_exit ?_
          refine VE.then_exit ?_
          refine VE.block_here ?_
          refine VE.block_normal ?_
          refine VE.then_wp ?_
          refine V.region ?_
          refine VL.r (.inl rfl) rfl (by decide) (yr_move rfl rfl) ?_
          refine VL.r (.inl rfl) rfl (by decide) (yr_int rfl rfl rfl (.inl ⟨rfl, wrap_in (by omega)⟩)) ?_
          refine VL.r (.inl rfl) rfl (by decide) (yr_assign rfl rfl) ?_
          refine VL.nil ?_
          refine VE.round (j + 1, m) ?_ ?_ ?_ ?_ ?_
          · exact (.cons rfl .nil)
          · exact (.cons rfl (.cons rfl (.cons rfl .nil)))
          · exact (fun w hw => hw)
          · refine ⟨by omega, hml, ?_, fun t ht => ?_⟩
            · rw [hm, chol, ← hl, show n - (j + 1) = c by omega]
            · rcases Nat.lt_or_ge t j with g | g
              · exact hc t g
              · obtain rfl : t = j := by omega
                obtain rfl : k = t := by omega
                rw [← hl]; assumption
          · (try dsimp only); omega
  · skip
    replace h1 := ic_lss' h1
    refine V.exit ?_
    refine VE.then_exit ?_
    refine VE.then_exit ?_
    refine VE.block_here ?_
    refine VE.then_wp ?_
    refine V.seq ?_
    refine V.region ?_
    refine VL.r (.inl rfl) rfl (by decide) (yr_move rfl rfl) ?_
    refine VL.r (.inl rfl) rfl (by decide) (yr_assign rfl rfl) ?_
    refine VL.r (.inl rfl) rfl (by decide) (yr_assign (u := .bool true) rfl rfl) ?_
    refine VL.nil ?_
    refine VE.then_wp ?_
    refine V.ret ?_
    refine ret2 rfl rfl rfl (by nofun) (by nofun) (fun w1 hw => ?_)
    obtain rfl : n = j := by omega
    have hs : cholOk xs n = true := chol_yes hn0 hc
    have hso : cholOf xs n = l := by rw [cholOf_yes hs, hl]
    exact ⟨(some ⟨b16, 0, none⟩, n * n), by rw [hso, hs, hll], by rw [hso]; exact hw.out1⟩

theorem c_specChol {w : World} {a : Option Addr} {c n : Nat} {xs : List Nat} (hA : Cl w a (fl xs)) (hxn : xs.length ≤ 1048576) (hn : n = side xs.length) : New Try.prog 24 [.slice a xs.length c] w (fun p : Option Addr × Nat => .tuple #[.slice p.1 (cholOf xs n).length p.2, .bool (cholOk xs n)]) (fun p => [⟨p.1, fl (cholOf xs n), p.2 * 1, 23⟩]) := by
  have hn8 : n ≤ 8 := by rw [hn]; exact side_le _
  have hnn : n * n ≤ 64 := Nat.mul_le_mul hn8 hn8
  have hix : ∀ {j k : Nat}, j < n → k < n → j * n + k < n * n := idx_lt
  refine New.enter Try.func24 rfl Try.ntmps24 (Nat.le_of_ble_eq_true rfl) ?_
  refine V.seq ?_
  refine V.region ?_
  refine VL.r (.inl rfl) rfl (by decide) (yr_assign (u := .slice none 0 0) rfl rfl) ?_
  refine VL.r (.inl rfl) rfl (by decide) (yr_assign (u := .bool false) rfl rfl) ?_
  refine VL.nil ?_
  refine VE.then_wp ?_
  refine V.seq ?_
  refine V.region ?_
  refine VL.r (.inl rfl) rfl (by decide) (yr_move rfl rfl) ?_
  refine VL.r (.inl rfl) rfl (by decide) (yr_len rfl Try.underlying22 rfl) ?_
  refine VL.q (.inl rfl) rfl (by decide) (yq_callf rfl known32_Chol (.cons rfl .nil) (fun w hw => (c_l07Side (by assumption) (by omega)))) ?_
  refine VL.r (.inl rfl) rfl (by decide) (yr_assign rfl rfl) ?_
  refine VL.nil ?_
  refine VE.then_wp ?_
  refine V.seq ?_
  refine V.seq ?_
  refine V.region ?_
  refine VL.r (.inl rfl) rfl (by decide) (yr_move rfl rfl) ?_
  refine VL.r (.inl rfl) rfl (by decide) (yr_icmp rfl (.inl rfl) rfl rfl) ?_
  refine VL.nil ?_
  refine VE.then_wp ?_
  refine V.cond rfl (fun h1 => ?_) (fun h1 => ?_)
  · skip
    replace h1 := ic_eql h1
    refine V.seq ?_
    refine V.region ?_
    refine VL.r (.inl rfl) rfl (by decide) (yr_assign (u := .slice none 0 0) rfl rfl) ?_
    refine VL.r (.inl rfl) rfl (by decide) (yr_assign (u := .bool false) rfl rfl) ?_
    refine VL.nil ?_
    refine VE.then_wp ?_
    refine V.ret ?_
    refine VE.then_ret ?_
    refine ret2 rfl rfl rfl (by nofun) (by nofun) (fun w1 hw => ?_)
    have hs : cholOk xs n = false := chol_no0 (by omega)
    exact ⟨(none, 0), by rw [cholOf_no hs, hs]; rfl, hw.below, by rw [cholOf_no hs]; simp [fl, Ent.at], List.pairwise_singleton _ _⟩
  · skip
    replace h1 := ic_eql' h1
    have hxs : xs.length = n * n := by rw [hn]; exact (side_mul (by rw [← hn]; omega)).symm
    refine V.skip ?_
    refine VE.then_wp ?_
    refine V.seq ?_
    refine V.region ?_
    refine VL.r (.inl rfl) rfl (by decide) (yr_move rfl rfl) ?_
    refine VL.r (.inl rfl) rfl (by decide) (yr_move rfl rfl) ?_
    refine VL.new1 (.inl rfl) rfl (by decide) (yn_callf rfl known50_Chol (.cons rfl (.cons rfl .nil)) (fun w hw => (c_l07Cholesky (by first | exact Sees.root (by assumption) w hw | exact Sees.at 0 rfl w hw | exact Sees.at 1 rfl w hw | exact Sees.at 2 rfl w hw | exact Sees.at 3 rfl w hw | exact Sees.at 4 rfl w hw | exact Sees.at 5 rfl w hw | exact Sees.at 6 rfl w hw | exact Sees.at 7 rfl w hw | exact Sees.at 8 rfl w hw | exact Sees.at 9 rfl w hw | exact Sees.at 10 rfl w hw | exact Sees.at 11 rfl w hw | exact Sees.at 12 rfl w hw | exact Sees.at 13 rfl w hw | exact Sees.at 14 rfl w hw | exact Sees.at 15 rfl w hw | exact Sees.at 16 rfl w hw | exact Sees.at 17 rfl w hw | exact Sees.at 18 rfl w hw | exact Sees.at 19 rfl w hw | exact Sees.own (List.mem_append.2 (.inr (.head _))) w hw) (by omega) (by omega) (by omega)))) ?_
    rintro ⟨a12, c12⟩
    refine VL.r (.inl rfl) rfl (by decide) (yr_extract rfl rfl rfl (by nofun)) ?_
    refine VL.r (.inl rfl) rfl (by decide) (yr_extract rfl rfl rfl (by nofun)) ?_
    refine VL.r (.inl rfl) rfl (by decide) (yr_assign rfl rfl) ?_
    refine VL.r (.inl rfl) rfl (by decide) (yr_assign rfl rfl) ?_
    refine VL.nil ?_
    refine VE.then_wp ?_
    refine V.ret ?_
    refine ret2 rfl rfl rfl (by nofun) (by nofun) (fun w1 hw => ?_)
    exact ⟨(a12, c12), rfl, hw.out1⟩

theorem c_implChol {w : World} {a : Option Addr} {c n : Nat} {xs : List Nat} (hA : Cl w a (fl xs)) (hxn : xs.length ≤ 1048576) (hn : n = side xs.length) : New Try.prog 25 [.slice a xs.length c] w (fun p : Option Addr × Nat => .tuple #[.slice p.1 (cholOf xs n).length p.2, .bool (cholOk xs n)]) (fun p => [⟨p.1, fl (cholOf xs n), p.2 * 1, 23⟩]) := by
  have hn8 : n ≤ 8 := by rw [hn]; exact side_le _
  have hnn : n * n ≤ 64 := Nat.mul_le_mul hn8 hn8
  have hix : ∀ {j k : Nat}, j < n → k < n → j * n + k < n * n := idx_lt
  refine New.enter Try.func25 rfl Try.ntmps25 (Nat.le_of_ble_eq_true rfl) ?_
  refine V.seq ?_
  refine V.region ?_
  refine VL.r (.inl rfl) rfl (by decide) (yr_assign (u := .slice none 0 0) rfl rfl) ?_
  refine VL.r (.inl rfl) rfl (by decide) (yr_assign (u := .bool false) rfl rfl) ?_
  refine VL.nil ?_
  refine VE.then_wp ?_
  refine V.seq ?_
  refine V.region ?_
  refine VL.r (.inl rfl) rfl (by decide) (yr_move rfl rfl) ?_
  refine VL.q (.inl rfl) rfl (by decide) (yq_callf rfl known34_Chol (.cons rfl .nil) (fun w hw => (c_sideOf hn (by omega)))) ?_
  refine VL.r (.inl rfl) rfl (by decide) (yr_move rfl rfl) ?_
  refine VL.r (.inl rfl) rfl (by decide) (yr_extract rfl rfl rfl (by nofun)) ?_
  refine VL.r (.inl rfl) rfl (by decide) (yr_extract rfl rfl rfl (by nofun)) ?_
  refine VL.r (.inl rfl) rfl (by decide) (yr_assign rfl rfl) ?_
  refine VL.r (.inl rfl) rfl (by decide) (yr_assign rfl rfl) ?_
  refine VL.nil ?_
  refine VE.then_wp ?_
  refine V.seq ?_
  refine V.seq ?_
  refine V.region ?_
  refine VL.r (.inl rfl) rfl (by decide) (yr_move rfl rfl) ?_
  refine VL.r (.inl rfl) rfl (by decide) (yr_not rfl rfl) ?_
  refine VL.nil ?_
  refine VE.then_wp ?_
  refine V.cond rfl (fun h1 => ?_) (fun h1 => ?_)
  · skip
    replace h1 := bnot_t h1
    replace h1 := of_decide_eq_false h1
    refine V.seq ?_
    refine V.region ?_
    refine VL.r (.inl rfl) rfl (by decide) (yr_assign (u := .slice none 0 0) rfl rfl) ?_
    refine VL.r (.inl rfl) rfl (by decide) (yr_assign (u := .bool false) rfl rfl) ?_
    refine VL.nil ?_
    refine VE.then_wp ?_
    refine V.ret ?_
    refine VE.then_ret ?_
    refine ret2 rfl rfl rfl (by nofun) (by nofun) (fun w1 hw => ?_)
    have hs : cholOk xs n = false := chol_no0 (by omega)
    exact ⟨(none, 0), by rw [cholOf_no hs, hs]; rfl, hw.below, by rw [cholOf_no hs]; simp [fl, Ent.at], List.pairwise_singleton _ _⟩
  · skip
    replace h1 := bnot_f h1
    replace h1 := of_decide_eq_true h1
    have hxs : xs.length = n * n := by rw [hn]; exact (side_mul (by rw [← hn]; omega)).symm
    refine V.skip ?_
    refine VE.then_wp ?_
    refine V.seq ?_
    refine V.region ?_
    refine VL.r (.inl rfl) rfl (by decide) (yr_move rfl rfl) ?_
    refine VL.r (.inl rfl) rfl (by decide) (yr_move rfl rfl) ?_
    refine VL.r (.inl rfl) rfl (by decide) (yr_int rfl rfl rfl (.inr (.inr ⟨rfl, wrap_in (by omega)⟩))) ?_
    refine VL.new1 (.inl rfl) rfl (by decide) (yn_makeSlicez 1 rfl rfl Try.underlying22 elt23_Chol rfl rfl rfl (by omega) (by omega)) ?_
    intro b23
    refine VL.r (.inl rfl) rfl (by decide) (yr_assign rfl rfl) ?_
    refine VL.nil ?_
    refine VE.then_wp ?_
    refine V.seq ?_
    refine V.seq ?_
    refine V.region ?_
    refine VL.r (.inl rfl) rfl (by decide) (yr_move rfl rfl) ?_
    refine VL.r (.inl rfl) rfl (by decide) (yr_move (u := .int .i64 0) rfl rfl) ?_
    refine VL.nil ?_
    refine VE.then_wp ?_
    refine V.block ?_
    refine V.loopc (G := Nat × (List Nat)) [(0, _), (4, _), (6, _), (24, _)] (fun ⟨j, l⟩ => j ≤ n ∧ l.length = n * n ∧ l = chol xs n j ∧ ∀ t, t < j → fcmp .gtr .f32 (cS xs (chol xs n t) n t t) 0 = true) (fun ⟨j, l⟩ => [⟨some ⟨b23, 0, none⟩, fl l, n * n * 1, 23⟩]) (fun ⟨j, l⟩ => [(25, .int .i64 (j : Int))]) (fun ⟨j, l⟩ => n - j) (0, List.replicate (n * n) 0) (.cons rfl (.cons rfl (.cons rfl (.cons rfl .nil)))) (.cons rfl .nil) ?_ ?_ ?_
    · exact (fun w hw => by rw [fl_zeros] at hw; exact hw)
    · exact (by exact ⟨by omega, by simp, rfl, fun t h => by omega⟩)
    rintro ⟨j, l⟩ ⟨hj, hll, hl, hc⟩
    show V _ _ _ [⟨some ⟨b23, 0, none⟩, fl l, n * n * 1, 23⟩] ([(25, .int .i64 (j : Int))] ++ [(0, _), (4, _), (6, _), (24, _)]) _ _
    have hjj : j < n → j * n + j < n * n := fun h => hix h h
    refine V.seq ?_
    refine V.region ?_
    refine VL.r (.inl rfl) rfl (by decide) (yr_icmp rfl (.inr (.inr (.inl rfl))) rfl rfl) ?_
    refine VL.nil ?_
    refine VE.then_wp ?_
    refine V.seq ?_
    refine V.cond rfl (fun h2 => ?_) (fun h2 => ?_)
    · skip
      replace h2 := ic_lss h2
      refine V.skip ?_
      refine VE.then_wp ?_
      refine V.seq ?_
      refine V.block ?_
      refine V.seq ?_
      refine V.region ?_
      refine VL.r (.inl rfl) rfl (by decide) (yr_move rfl rfl) ?_
      refine VL.r (.inl rfl) rfl (by decide) (yr_assign rfl rfl) ?_
      refine VL.nil ?_
      refine VE.then_wp ?_
      refine V.seq ?_
      refine V.region ?_
      refine VL.r (.inl rfl) rfl (by decide) (yr_move rfl rfl) ?_
      refine VL.r (.inl rfl) rfl (by decide) (yr_move rfl rfl) ?_
      refine VL.r (.inl rfl) rfl (by decide) (yr_move rfl rfl) ?_
      refine VL.r (.inl rfl) rfl (by decide) (yr_mulN j n rfl rfl rfl (by omega) (by omega) (Nat.le_trans (mul_small (by omega) (by omega)) (by decide))) ?_
      refine VL.r (.inl rfl) rfl (by decide) (yr_move rfl rfl) ?_
      refine VL.r (.inl rfl) rfl (by decide) (yr_int rfl rfl rfl (.inl ⟨rfl, wrap_in (by omega)⟩)) ?_
      refine VL.q (.inl rfl) rfl (by decide) (yq_idx (k := ((j * n) + j)) rfl Try.underlying22 sz23_Chol rfl rfl (by first | exact Sees.root (by assumption) | exact Sees.at 0 rfl | exact Sees.at 1 rfl | exact Sees.at 2 rfl | exact Sees.at 3 rfl | exact Sees.at 4 rfl | exact Sees.at 5 rfl | exact Sees.at 6 rfl | exact Sees.at 7 rfl | exact Sees.at 8 rfl | exact Sees.at 9 rfl | exact Sees.at 10 rfl | exact Sees.at 11 rfl | exact Sees.at 12 rfl | exact Sees.at 13 rfl | exact Sees.at 14 rfl | exact Sees.at 15 rfl | exact Sees.at 16 rfl | exact Sees.at 17 rfl | exact Sees.at 18 rfl | exact Sees.at 19 rfl | exact Sees.own (List.mem_append.2 (.inr (.head _)))) (by first | rfl | omega | (push_cast; rfl) | (push_cast; omega)) (by first | exact fl_length _ | (rw [fl_length]; omega)) (by omega)) ?_
      refine VL.q (.inl rfl) rfl (by decide) (yq_loadF rfl fb23_Chol rfl (by first | exact Sees.root (by assumption) | exact Sees.at 0 rfl | exact Sees.at 1 rfl | exact Sees.at 2 rfl | exact Sees.at 3 rfl | exact Sees.at 4 rfl | exact Sees.at 5 rfl | exact Sees.at 6 rfl | exact Sees.at 7 rfl | exact Sees.at 8 rfl | exact Sees.at 9 rfl | exact Sees.at 10 rfl | exact Sees.at 11 rfl | exact Sees.at 12 rfl | exact Sees.at 13 rfl | exact Sees.at 14 rfl | exact Sees.at 15 rfl | exact Sees.at 16 rfl | exact Sees.at 17 rfl | exact Sees.at 18 rfl | exact Sees.at 19 rfl | exact Sees.own (List.mem_append.2 (.inr (.head _)))) (by omega)) ?_
      refine VL.r (.inl rfl) rfl (by decide) (yr_assign rfl rfl) ?_
      refine VL.nil ?_
      refine VE.then_wp ?_
      refine V.seq ?_
      refine V.seq ?_
      refine V.region ?_
      refine VL.r (.inl rfl) rfl (by decide) (yr_move rfl rfl) ?_
      refine VL.r (.inl rfl) rfl (by decide) (yr_move (u := .int .i64 0) rfl rfl) ?_
      refine VL.nil ?_
      refine VE.then_wp ?_
      refine V.block ?_
      refine V.loops (G := Nat) [(0, _), (4, _), (6, _), (7, _), (24, _), (25, _), (36, _)] (fun (k : Nat) => k ≤ j) (fun (k : Nat) => [(8, .float .f32 (cS xs l n j k)), (37, .int .i64 (k : Int))]) (fun (k : Nat) => j - k) 0 (.cons rfl (.cons rfl (.cons rfl (.cons rfl (.cons rfl (.cons rfl (.cons rfl .nil))))))) (.cons rfl (.cons rfl .nil)) ?_ ?_
      · exact (by omega)
      rintro k hk
      show V _ _ _ _ ([(8, .float .f32 (cS xs l n j k)), (37, .int .i64 (k : Int))] ++ [(0, _), (4, _), (6, _), (7, _), (24, _), (25, _), (36, _)]) _ _
      have hjk : j < n → k < j → j * n + k < n * n := fun h g => hix h (by omega)
      refine V.seq ?_
      refine V.region ?_
      refine VL.r (.inl rfl) rfl (by decide) (yr_icmp rfl (.inr (.inr (.inl rfl))) rfl rfl) ?_
      refine VL.nil ?_
      refine VE.then_wp ?_
      refine V.seq ?_
      refine V.cond rfl (fun h3 => ?_) (fun h3 => ?_)
      · skip
        replace h3 := ic_lss h3
        refine V.skip ?_
        refine VE.then_wp ?_
        refine V.seq ?_
        refine V.block ?_
        refine V.seq ?_
        refine V.region ?_
        refine VL.r (.inl rfl) rfl (by decide) (yr_move rfl rfl) ?_
        refine VL.r (.inl rfl) rfl (by decide) (yr_assign rfl rfl) ?_
        refine VL.nil ?_
        refine VE.then_wp ?_
        refine V.draw [(0, 0), (1, 0), (2, 0), (3, 0), (4, 0), (5, 0), (6, 0), (7, 0), (8, 0), (9, 0), (10, 0), (11, 0), (12, 0), (13, 0), (14, 0), (15, 0), (16, 0), (17, 0), (18, 0), (19, 0)] mixed_Chol (by kernel_rfl) (by intro j o hj; simp at hj) ?_
        refine SW.r rfl (.inl rfl) rfl (by decide) (yr_move rfl rfl) ?_
        refine SW.r rfl (.inl rfl) rfl (by decide) (yr_move rfl rfl) ?_
        refine SW.r rfl (.inl rfl) rfl (by decide) (yr_move rfl rfl) ?_
        refine SW.r rfl (.inl rfl) rfl (by decide) (yr_move rfl rfl) ?_
        refine SW.r rfl (.inl rfl) rfl (by decide) (yr_mulN j n rfl rfl rfl (by omega) (by omega) (Nat.le_trans (mul_small (by omega) (by omega)) (by decide))) ?_
        refine SW.r rfl (.inl rfl) rfl (by decide) (yr_move rfl rfl) ?_
        refine SW.r rfl (.inl rfl) rfl (by decide) (yr_int rfl rfl rfl (.inl ⟨rfl, wrap_in (by omega)⟩)) ?_
        refine SW.q rfl (.inl rfl) rfl (by decide) (yq_idx (k := ((j * n) + k)) rfl Try.underlying22 sz23_Chol rfl rfl (by first | exact Sees.root (by assumption) | exact Sees.at 0 rfl | exact Sees.at 1 rfl | exact Sees.at 2 rfl | exact Sees.at 3 rfl | exact Sees.at 4 rfl | exact Sees.at 5 rfl | exact Sees.at 6 rfl | exact Sees.at 7 rfl | exact Sees.at 8 rfl | exact Sees.at 9 rfl | exact Sees.at 10 rfl | exact Sees.at 11 rfl | exact Sees.at 12 rfl | exact Sees.at 13 rfl | exact Sees.at 14 rfl | exact Sees.at 15 rfl | exact Sees.at 16 rfl | exact Sees.at 17 rfl | exact Sees.at 18 rfl | exact Sees.at 19 rfl | exact Sees.own (List.mem_append.2 (.inr (.head _)))) (by first | rfl | omega | (push_cast; rfl) | (push_cast; omega)) (by first | exact fl_length _ | (rw [fl_length]; omega)) (by omega)) ?_
        refine SW.q rfl (.inl rfl) rfl (by decide) (yq_loadF rfl fb23_Chol rfl (by first | exact Sees.root (by assumption) | exact Sees.at 0 rfl | exact Sees.at 1 rfl | exact Sees.at 2 rfl | exact Sees.at 3 rfl | exact Sees.at 4 rfl | exact Sees.at 5 rfl | exact Sees.at 6 rfl | exact Sees.at 7 rfl | exact Sees.at 8 rfl | exact Sees.at 9 rfl | exact Sees.at 10 rfl | exact Sees.at 11 rfl | exact Sees.at 12 rfl | exact Sees.at 13 rfl | exact Sees.at 14 rfl | exact Sees.at 15 rfl | exact Sees.at 16 rfl | exact Sees.at 17 rfl | exact Sees.at 18 rfl | exact Sees.at 19 rfl | exact Sees.own (List.mem_append.2 (.inr (.head _)))) (by omega)) ?_
        refine SW.r rfl (.inl rfl) rfl (by decide) (yr_move rfl rfl) ?_
        refine SW.r rfl (.inl rfl) rfl (by decide) (yr_move rfl rfl) ?_
        refine SW.r rfl (.inl rfl) rfl (by decide) (yr_move rfl rfl) ?_
        refine SW.r rfl (.inl rfl) rfl (by decide) (yr_mulN j n rfl rfl rfl (by omega) (by omega) (Nat.le_trans (mul_small (by omega) (by omega)) (by decide))) ?_
        refine SW.r rfl (.inl rfl) rfl (by decide) (yr_move rfl rfl) ?_
        refine SW.r rfl (.inl rfl) rfl (by decide) (yr_int rfl rfl rfl (.inl ⟨rfl, wrap_in (by omega)⟩)) ?_
        refine SW.q rfl (.inl rfl) rfl (by decide) (yq_idx (k := ((j * n) + k)) rfl Try.underlying22 sz23_Chol rfl rfl (by first | exact Sees.root (by assumption) | exact Sees.at 0 rfl | exact Sees.at 1 rfl | exact Sees.at 2 rfl | exact Sees.at 3 rfl | exact Sees.at 4 rfl | exact Sees.at 5 rfl | exact Sees.at 6 rfl | exact Sees.at 7 rfl | exact Sees.at 8 rfl | exact Sees.at 9 rfl | exact Sees.at 10 rfl | exact Sees.at 11 rfl | exact Sees.at 12 rfl | exact Sees.at 13 rfl | exact Sees.at 14 rfl | exact Sees.at 15 rfl | exact Sees.at 16 rfl | exact Sees.at 17 rfl | exact Sees.at 18 rfl | exact Sees.at 19 rfl | exact Sees.own (List.mem_append.2 (.inr (.head _)))) (by first | rfl | omega | (push_cast; rfl) | (push_cast; omega)) (by first | exact fl_length _ | (rw [fl_length]; omega)) (by omega)) ?_
        refine SW.q rfl (.inl rfl) rfl (by decide) (yq_loadF rfl fb23_Chol rfl (by first | exact Sees.root (by assumption) | exact Sees.at 0 rfl | exact Sees.at 1 rfl | exact Sees.at 2 rfl | exact Sees.at 3 rfl | exact Sees.at 4 rfl | exact Sees.at 5 rfl | exact Sees.at 6 rfl | exact Sees.at 7 rfl | exact Sees.at 8 rfl | exact Sees.at 9 rfl | exact Sees.at 10 rfl | exact Sees.at 11 rfl | exact Sees.at 12 rfl | exact Sees.at 13 rfl | exact Sees.at 14 rfl | exact Sees.at 15 rfl | exact Sees.at 16 rfl | exact Sees.at 17 rfl | exact Sees.at 18 rfl | exact Sees.at 19 rfl | exact Sees.own (List.mem_append.2 (.inr (.head _)))) (by omega)) ?_
        refine SW.r rfl (.inl rfl) rfl (by decide) (yr_float rfl (.inr (.inr (.inl rfl))) rfl rfl) ?_
        refine SW.r rfl (.inl rfl) rfl (by decide) (yr_float rfl (.inr (.inl rfl)) rfl rfl) ?_
        refine SW.r rfl (.inl rfl) rfl (by decide) (yr_assign rfl rfl) ?_
        refine SW.done ?_
        refine VE.block_normal ?_
        refine VE.then_wp ?_
        refine V.region ?_
        refine VL.r (.inl rfl) rfl (by decide) (yr_int rfl rfl rfl (.inl ⟨rfl, wrap_in (by omega)⟩)) ?_
        refine VL.r (.inl rfl) rfl (by decide) (yr_move rfl rfl) ?_
        refine VL.nil ?_
        refine VE.round (k + 1) ?_ ?_ ?_ ?_ ?_
        · exact (.cons rfl (.cons rfl .nil))
        · exact (.cons rfl (.cons rfl (.cons rfl (.cons rfl (.cons rfl (.cons rfl (.cons rfl .nil)))))))
        · exact (fun w hw => hw)
        · omega
        · (try dsimp only); omega
      · skip
        replace h3 := ic_lss' h3
        refine V.exit ?_
        refine VE.then_exit ?_
        refine VE.then_exit ?_
        refine VE.block_here ?_
        refine VE.then_wp ?_
        refine V.seq ?_
        refine V.seq ?_
        refine V.region ?_
        refine VL.r (.inl rfl) rfl (by decide) (yr_move rfl rfl) ?_
        refine VL.r (.inl rfl) rfl (by decide) (yr_fcmp (b := 0) rfl (.inr (.inr (.inr (.inr (.inl rfl))))) rfl rfl) ?_
        refine VL.r (.inl rfl) rfl (by decide) (yr_not rfl rfl) ?_
        refine VL.nil ?_
        refine VE.then_wp ?_
        refine V.cond rfl (fun h4 => ?_) (fun h4 => ?_)
        · skip
          replace h4 := bnot_t h4
          refine V.seq ?_
          refine V.region ?_
          refine VL.r (.inl rfl) rfl (by decide) (yr_assign (u := .slice none 0 0) rfl rfl) ?_
          refine VL.r (.inl rfl) rfl (by decide) (yr_assign (u := .bool false) rfl rfl) ?_
          refine VL.nil ?_
          refine VE.then_wp ?_
          refine V.ret ?_
          refine VE.then_ret ?_
          refine VE.block_ret ?_
          refine VE.then_ret ?_
          refine VE.then_ret ?_
          refine VE.block_ret ?_
          refine VE.then_ret ?_
          refine ret2 rfl rfl rfl (by nofun) (by nofun) (fun w1 hw => ?_)
          obtain rfl : k = j := by omega
          have hs : cholOk xs n = false := chol_no1 (j := k) (by omega) (by rw [← hl]; assumption)
          exact ⟨(none, 0), by rw [cholOf_no hs, hs]; rfl, hw.below, by rw [cholOf_no hs]; simp [fl, Ent.at], List.pairwise_singleton _ _⟩
        · skip
          replace h4 := bnot_f h4
          refine V.skip ?_
          refine VE.then_wp ?_
          refine V.seq ?_
          refine V.region ?_
          refine VL.r (.inl rfl) rfl (by decide) (yr_move rfl rfl) ?_
          refine VL.r (.inl rfl) rfl (by decide) (yr_move rfl rfl) ?_
          refine VL.r (.inl rfl) rfl (by decide) (yr_move rfl rfl) ?_
          refine VL.r (.inl rfl) rfl (by decide) (yr_mulN j n rfl rfl rfl (by omega) (by omega) (Nat.le_trans (mul_small (by omega) (by omega)) (by decide))) ?_
          refine VL.r (.inl rfl) rfl (by decide) (yr_move rfl rfl) ?_
          refine VL.r (.inl rfl) rfl (by decide) (yr_int rfl rfl rfl (.inl ⟨rfl, wrap_in (by omega)⟩)) ?_
          refine VL.r (.inl rfl) rfl (by decide) (yr_move rfl rfl) ?_
          refine VL.q (.inl rfl) rfl (by decide) (yq_callf rfl known51_Chol (.cons rfl .nil) (fun w hw => c_RootNumber _)) ?_
          refine VL.q (.inl rfl) rfl (by decide) (yq_idx (k := ((j * n) + j)) rfl Try.underlying22 sz23_Chol rfl rfl (by first | exact Sees.root (by assumption) | exact Sees.at 0 rfl | exact Sees.at 1 rfl | exact Sees.at 2 rfl | exact Sees.at 3 rfl | exact Sees.at 4 rfl | exact Sees.at 5 rfl | exact Sees.at 6 rfl | exact Sees.at 7 rfl | exact Sees.at 8 rfl | exact Sees.at 9 rfl | exact Sees.at 10 rfl | exact Sees.at 11 rfl | exact Sees.at 12 rfl | exact Sees.at 13 rfl | exact Sees.at 14 rfl | exact Sees.at 15 rfl | exact Sees.at 16 rfl | exact Sees.at 17 rfl | exact Sees.at 18 rfl | exact Sees.at 19 rfl | exact Sees.own (List.mem_append.2 (.inr (.head _)))) (by first | rfl | omega | (push_cast; rfl) | (push_cast; omega)) (by first | exact fl_length _ | (rw [fl_length]; omega)) (by omega)) ?_
          refine VL.s (.inl rfl) rfl (yc_store rfl sz23_Chol rfl rfl (by first | exact .here | exact .there .here | exact .there (.there .here) | exact .there (.there (.there .here)) | exact .there (.there (.there (.there .here))) | exact .there (.there (.there (.there (.there .here)))) | exact .there (.there (.there (.there (.there (.there .here))))) | exact .there (.there (.there (.there (.there (.there (.there .here)))))) | exact .there (.there (.there (.there (.there (.there (.there (.there .here))))))) | exact .there (.there (.there (.there (.there (.there (.there (.there (.there .here)))))))) | exact .thereS .here) (.inl ⟨rfl, rfl⟩) rfl (by rw [fl_length]; omega) (by decide) (fl_set _ _ _)) ?_
          rintro ⟨⟩
          refine VL.nil ?_
          refine VE.then_wp ?_
          refine V.seq ?_
          refine V.region ?_
          refine VL.r (.inl rfl) rfl (by decide) (yr_move rfl rfl) ?_
          refine VL.r (.inl rfl) rfl (by decide) (yr_int rfl rfl rfl (.inl ⟨rfl, wrap_in (by omega)⟩)) ?_
          refine VL.r (.inl rfl) rfl (by decide) (yr_assign rfl rfl) ?_
          refine VL.nil ?_
          refine VE.then_wp ?_
          refine V.block ?_
          refine V.loopc (G := Nat × (List Nat)) [(0, _), (4, _), (6, _), (7, _), (24, _), (25, _)] (fun ⟨c, m⟩ => j + 1 + c ≤ n ∧ m.length = n * n ∧ m = cCol xs n j (l.set (j * n + j) (sqrt32 (cS xs l n j j))) c) (fun ⟨c, m⟩ => [⟨some ⟨b23, 0, none⟩, fl m, n * n * 1, 23⟩]) (fun ⟨c, m⟩ => [(10, .int .i64 ((j + 1 + c : Nat) : Int))]) (fun ⟨c, m⟩ => n - (j + 1 + c)) (0, l.set (j * n + j) (sqrt32 (cS xs l n j k))) (.cons rfl (.cons rfl (.cons rfl (.cons rfl (.cons rfl (.cons rfl .nil)))))) (.cons (congrArg (fun i => some (Value.int .i64 i)) (by omega)) .nil) ?_ ?_ ?_
          · exact (fun w hw => hw)
          · exact (by obtain rfl : k = j := (by omega); exact ⟨by omega, by simp [hll], rfl⟩)
          rintro ⟨c, m⟩ ⟨hcn, hml, hm⟩
          show V _ _ _ [⟨some ⟨b23, 0, none⟩, fl m, n * n * 1, 23⟩] ([(10, .int .i64 ((j + 1 + c : Nat) : Int))] ++ [(0, _), (4, _), (6, _), (7, _), (24, _), (25, _)]) _ _
          have hij : j + 1 + c < n → (j + 1 + c) * n + j < n * n := fun h => hix h (by omega)
          refine V.seq ?_
          refine V.seq ?_
          refine V.region ?_
          refine VL.r (.inl rfl) rfl (by decide) (yr_move rfl rfl) ?_
          refine VL.r (.inl rfl) rfl (by decide) (yr_move rfl rfl) ?_
          refine VL.r (.inl rfl) rfl (by decide) (yr_icmp rfl (.inr (.inr (.inl rfl))) rfl rfl) ?_
          refine VL.nil ?_
          refine VE.then_wp ?_
          refine V.cond rfl (fun h5 => ?_) (fun h5 => ?_)
          · skip
            replace h5 := ic_lss h5
            refine V.skip ?_
            refine VE.then_wp ?_
            refine V.seq ?_
            refine V.block ?_
            refine V.seq ?_
            refine V.region ?_
            refine VL.r (.inl rfl) rfl (by decide) (yr_move rfl rfl) ?_
            refine VL.r (.inl rfl) rfl (by decide) (yr_move rfl rfl) ?_
            refine VL.r (.inl rfl) rfl (by decide) (yr_move rfl rfl) ?_
            refine VL.r (.inl rfl) rfl (by decide) (yr_mulN (j + 1 + c) n rfl rfl rfl (by omega) (by omega) (Nat.le_trans (mul_small (by omega) (by omega)) (by decide))) ?_
            refine VL.r (.inl rfl) rfl (by decide) (yr_move rfl rfl) ?_
            refine VL.r (.inl rfl) rfl (by decide) (yr_int rfl rfl rfl (.inl ⟨rfl, wrap_in (by omega)⟩)) ?_
            refine VL.q (.inl rfl) rfl (by decide) (yq_idx (k := (((j + 1 + c) * n) + j)) rfl Try.underlying22 sz23_Chol rfl rfl (by first | exact Sees.root (by assumption) | exact Sees.at 0 rfl | exact Sees.at 1 rfl | exact Sees.at 2 rfl | exact Sees.at 3 rfl | exact Sees.at 4 rfl | exact Sees.at 5 rfl | exact Sees.at 6 rfl | exact Sees.at 7 rfl | exact Sees.at 8 rfl | exact Sees.at 9 rfl | exact Sees.at 10 rfl | exact Sees.at 11 rfl | exact Sees.at 12 rfl | exact Sees.at 13 rfl | exact Sees.at 14 rfl | exact Sees.at 15 rfl | exact Sees.at 16 rfl | exact Sees.at 17 rfl | exact Sees.at 18 rfl | exact Sees.at 19 rfl | exact Sees.own (List.mem_append.2 (.inr (.head _)))) (by first | rfl | omega | (push_cast; rfl) | (push_cast; omega)) (by first | exact fl_length _ | (rw [fl_length]; omega)) (by omega)) ?_
            refine VL.q (.inl rfl) rfl (by decide) (yq_loadF rfl fb23_Chol rfl (by first | exact Sees.root (by assumption) | exact Sees.at 0 rfl | exact Sees.at 1 rfl | exact Sees.at 2 rfl | exact Sees.at 3 rfl | exact Sees.at 4 rfl | exact Sees.at 5 rfl | exact Sees.at 6 rfl | exact Sees.at 7 rfl | exact Sees.at 8 rfl | exact Sees.at 9 rfl | exact Sees.at 10 rfl | exact Sees.at 11 rfl | exact Sees.at 12 rfl | exact Sees.at 13 rfl | exact Sees.at 14 rfl | exact Sees.at 15 rfl | exact Sees.at 16 rfl | exact Sees.at 17 rfl | exact Sees.at 18 rfl | exact Sees.at 19 rfl | exact Sees.own (List.mem_append.2 (.inr (.head _)))) (by omega)) ?_
            refine VL.r (.inl rfl) rfl (by decide) (yr_assign rfl rfl) ?_
            refine VL.nil ?_
            refine VE.then_wp ?_
            refine V.seq ?_
            refine V.seq ?_
            refine V.region ?_
            refine VL.r (.inl rfl) rfl (by decide) (yr_move rfl rfl) ?_
            refine VL.r (.inl rfl) rfl (by decide) (yr_move (u := .int .i64 0) rfl rfl) ?_
            refine VL.nil ?_
            refine VE.then_wp ?_
            refine V.block ?_
            refine V.loops (G := Nat) [(0, _), (4, _), (6, _), (7, _), (10, _), (24, _), (25, _), (87, _)] (fun (q : Nat) => q ≤ j) (fun (q : Nat) => [(11, .float .f32 (cX xs m n (j + 1 + c) j q)), (88, .int .i64 (q : Int))]) (fun (q : Nat) => j - q) 0 (.cons rfl (.cons rfl (.cons rfl (.cons rfl (.cons rfl (.cons rfl (.cons rfl (.cons rfl .nil)))))))) (.cons rfl (.cons rfl .nil)) ?_ ?_
            · exact (by omega)
            rintro q hq
            show V _ _ _ _ ([(11, .float .f32 (cX xs m n (j + 1 + c) j q)), (88, .int .i64 (q : Int))] ++ [(0, _), (4, _), (6, _), (7, _), (10, _), (24, _), (25, _), (87, _)]) _ _
            have hjq : j < n → q < j → j * n + q < n * n := fun h g => hix h (by omega)
            have hiq : j + 1 + c < n → q < j → (j + 1 + c) * n + q < n * n := fun h g => hix h (by omega)
            refine V.seq ?_
            refine V.region ?_
            refine VL.r (.inl rfl) rfl (by decide) (yr_icmp rfl (.inr (.inr (.inl rfl))) rfl rfl) ?_
            refine VL.nil ?_
            refine VE.then_wp ?_
            refine V.seq ?_
            refine V.cond rfl (fun h6 => ?_) (fun h6 => ?_)
            · skip
              replace h6 := ic_lss h6
              refine V.skip ?_
              refine VE.then_wp ?_
              refine V.seq ?_
              refine V.block ?_
              refine V.seq ?_
              refine V.region ?_
              refine VL.r (.inl rfl) rfl (by decide) (yr_move rfl rfl) ?_
              refine VL.r (.inl rfl) rfl (by decide) (yr_assign rfl rfl) ?_
              refine VL.nil ?_
              refine VE.then_wp ?_
              refine V.draw [(0, 0), (1, 0), (2, 0), (3, 0), (4, 0), (5, 0), (6, 0), (7, 0), (8, 0), (9, 0), (10, 0), (11, 0), (12, 0), (13, 0), (14, 0), (15, 0), (16, 0), (17, 0), (18, 0), (19, 0)] mixed_Chol (by kernel_rfl) (by intro j o hj; simp at hj) ?_
              refine SW.r rfl (.inl rfl) rfl (by decide) (yr_move rfl rfl) ?_
              refine SW.r rfl (.inl rfl) rfl (by decide) (yr_move rfl rfl) ?_
              refine SW.r rfl (.inl rfl) rfl (by decide) (yr_move rfl rfl) ?_
              refine SW.r rfl (.inl rfl) rfl (by decide) (yr_move rfl rfl) ?_
              refine SW.r rfl (.inl rfl) rfl (by decide) (yr_mulN (j + 1 + c) n rfl rfl rfl (by omega) (by omega) (Nat.le_trans (mul_small (by omega) (by omega)) (by decide))) ?_
              refine SW.r rfl (.inl rfl) rfl (by decide) (yr_move rfl rfl) ?_
              refine SW.r rfl (.inl rfl) rfl (by decide) (yr_int rfl rfl rfl (.inl ⟨rfl, wrap_in (by omega)⟩)) ?_
              refine SW.q rfl (.inl rfl) rfl (by decide) (yq_idx (k := (((j + 1 + c) * n) + q)) rfl Try.underlying22 sz23_Chol rfl rfl (by first | exact Sees.root (by assumption) | exact Sees.at 0 rfl | exact Sees.at 1 rfl | exact Sees.at 2 rfl | exact Sees.at 3 rfl | exact Sees.at 4 rfl | exact Sees.at 5 rfl | exact Sees.at 6 rfl | exact Sees.at 7 rfl | exact Sees.at 8 rfl | exact Sees.at 9 rfl | exact Sees.at 10 rfl | exact Sees.at 11 rfl | exact Sees.at 12 rfl | exact Sees.at 13 rfl | exact Sees.at 14 rfl | exact Sees.at 15 rfl | exact Sees.at 16 rfl | exact Sees.at 17 rfl | exact Sees.at 18 rfl | exact Sees.at 19 rfl | exact Sees.own (List.mem_append.2 (.inr (.head _)))) (by first | rfl | omega | (push_cast; rfl) | (push_cast; omega)) (by first | exact fl_length _ | (rw [fl_length]; omega)) (by omega)) ?_
              refine SW.q rfl (.inl rfl) rfl (by decide) (yq_loadF rfl fb23_Chol rfl (by first | exact Sees.root (by assumption) | exact Sees.at 0 rfl | exact Sees.at 1 rfl | exact Sees.at 2 rfl | exact Sees.at 3 rfl | exact Sees.at 4 rfl | exact Sees.at 5 rfl | exact Sees.at 6 rfl | exact Sees.at 7 rfl | exact Sees.at 8 rfl | exact Sees.at 9 rfl | exact Sees.at 10 rfl | exact Sees.at 11 rfl | exact Sees.at 12 rfl | exact Sees.at 13 rfl | exact Sees.at 14 rfl | exact Sees.at 15 rfl | exact Sees.at 16 rfl | exact Sees.at 17 rfl | exact Sees.at 18 rfl | exact Sees.at 19 rfl | exact Sees.own (List.mem_append.2 (.inr (.head _)))) (by omega)) ?_
              refine SW.r rfl (.inl rfl) rfl (by decide) (yr_move rfl rfl) ?_
              refine SW.r rfl (.inl rfl) rfl (by decide) (yr_move rfl rfl) ?_
              refine SW.r rfl (.inl rfl) rfl (by decide) (yr_move rfl rfl) ?_
              refine SW.r rfl (.inl rfl) rfl (by decide) (yr_mulN j n rfl rfl rfl (by omega) (by omega) (Nat.le_trans (mul_small (by omega) (by omega)) (by decide))) ?_
              refine SW.r rfl (.inl rfl) rfl (by decide) (yr_move rfl rfl) ?_
              refine SW.r rfl (.inl rfl) rfl (by decide) (yr_int rfl rfl rfl (.inl ⟨rfl, wrap_in (by omega)⟩)) ?_
              refine SW.q rfl (.inl rfl) rfl (by decide) (yq_idx (k := ((j * n) + q)) rfl Try.underlying22 sz23_Chol rfl rfl (by first | exact Sees.root (by assumption) | exact Sees.at 0 rfl | exact Sees.at 1 rfl | exact Sees.at 2 rfl | exact Sees.at 3 rfl | exact Sees.at 4 rfl | exact Sees.at 5 rfl | exact Sees.at 6 rfl | exact Sees.at 7 rfl | exact Sees.at 8 rfl | exact Sees.at 9 rfl | exact Sees.at 10 rfl | exact Sees.at 11 rfl | exact Sees.at 12 rfl | exact Sees.at 13 rfl | exact Sees.at 14 rfl | exact Sees.at 15 rfl | exact Sees.at 16 rfl | exact Sees.at 17 rfl | exact Sees.at 18 rfl | exact Sees.at 19 rfl | exact Sees.own (List.mem_append.2 (.inr (.head _)))) (by first | rfl | omega | (push_cast; rfl) | (push_cast; omega)) (by first | exact fl_length _ | (rw [fl_length]; omega)) (by omega)) ?_
              refine SW.q rfl (.inl rfl) rfl (by decide) (yq_loadF rfl fb23_Chol rfl (by first | exact Sees.root (by assumption) | exact Sees.at 0 rfl | exact Sees.at 1 rfl | exact Sees.at 2 rfl | exact Sees.at 3 rfl | exact Sees.at 4 rfl | exact Sees.at 5 rfl | exact Sees.at 6 rfl | exact Sees.at 7 rfl | exact Sees.at 8 rfl | exact Sees.at 9 rfl | exact Sees.at 10 rfl | exact Sees.at 11 rfl | exact Sees.at 12 rfl | exact Sees.at 13 rfl | exact Sees.at 14 rfl | exact Sees.at 15 rfl | exact Sees.at 16 rfl | exact Sees.at 17 rfl | exact Sees.at 18 rfl | exact Sees.at 19 rfl | exact Sees.own (List.mem_append.2 (.inr (.head _)))) (by omega)) ?_
              refine SW.r rfl (.inl rfl) rfl (by decide) (yr_float rfl (.inr (.inr (.inl rfl))) rfl rfl) ?_
              refine SW.r rfl (.inl rfl) rfl (by decide) (yr_float rfl (.inr (.inl rfl)) rfl rfl) ?_
              refine SW.r rfl (.inl rfl) rfl (by decide) (yr_assign rfl rfl) ?_
              refine SW.done ?_
              refine VE.block_normal ?_
              refine VE.then_wp ?_
              refine V.region ?_
              refine VL.r (.inl rfl) rfl (by decide) (yr_int rfl rfl rfl (.inl ⟨rfl, wrap_in (by omega)⟩)) ?_
              refine VL.r (.inl rfl) rfl (by decide) (yr_move rfl rfl) ?_
              refine VL.nil ?_
              refine VE.round (q + 1) ?_ ?_ ?_ ?_ ?_
              · exact (.cons rfl (.cons rfl .nil))
              · exact (.cons rfl (.cons rfl (.cons rfl (.cons rfl (.cons rfl (.cons rfl (.cons rfl (.cons rfl .nil))))))))
              · exact (fun w hw => hw)
              · omega
              · (try dsimp only); omega
            · skip
              replace h6 := ic_lss' h6
              refine V.exit ?_
              refine VE.then_exit ?_
              refine VE.then_exit ?_
              refine VE.block_here ?_
              refine VE.then_wp ?_
              refine V.region ?_
              refine VL.r (.inl rfl) rfl (by decide) (yr_move rfl rfl) ?_
              refine VL.r (.inl rfl) rfl (by decide) (yr_move rfl rfl) ?_
              refine VL.r (.inl rfl) rfl (by decide) (yr_move rfl rfl) ?_
              refine VL.r (.inl rfl) rfl (by decide) (yr_mulN (j + 1 + c) n rfl rfl rfl (by omega) (by omega) (Nat.le_trans (mul_small (by omega) (by omega)) (by decide))) ?_
              refine VL.r (.inl rfl) rfl (by decide) (yr_move rfl rfl) ?_
              refine VL.r (.inl rfl) rfl (by decide) (yr_int rfl rfl rfl (.inl ⟨rfl, wrap_in (by omega)⟩)) ?_
              refine VL.r (.inl rfl) rfl (by decide) (yr_move rfl rfl) ?_
              refine VL.r (.inl rfl) rfl (by decide) (yr_move rfl rfl) ?_
              refine VL.r (.inl rfl) rfl (by decide) (yr_move rfl rfl) ?_
              refine VL.r (.inl rfl) rfl (by decide) (yr_move rfl rfl) ?_
              refine VL.r (.inl rfl) rfl (by decide) (yr_mulN j n rfl rfl rfl (by omega) (by omega) (Nat.le_trans (mul_small (by omega) (by omega)) (by decide))) ?_
              refine VL.r (.inl rfl) rfl (by decide) (yr_move rfl rfl) ?_
              refine VL.r (.inl rfl) rfl (by decide) (yr_int rfl rfl rfl (.inl ⟨rfl, wrap_in (by omega)⟩)) ?_
              refine VL.q (.inl rfl) rfl (by decide) (yq_idx (k := ((j * n) + j)) rfl Try.underlying22 sz23_Chol rfl rfl (by first | exact Sees.root (by assumption) | exact Sees.at 0 rfl | exact Sees.at 1 rfl | exact Sees.at 2 rfl | exact Sees.at 3 rfl | exact Sees.at 4 rfl | exact Sees.at 5 rfl | exact Sees.at 6 rfl | exact Sees.at 7 rfl | exact Sees.at 8 rfl | exact Sees.at 9 rfl | exact Sees.at 10 rfl | exact Sees.at 11 rfl | exact Sees.at 12 rfl | exact Sees.at 13 rfl | exact Sees.at 14 rfl | exact Sees.at 15 rfl | exact Sees.at 16 rfl | exact Sees.at 17 rfl | exact Sees.at 18 rfl | exact Sees.at 19 rfl | exact Sees.own (List.mem_append.2 (.inr (.head _)))) (by first | rfl | omega | (push_cast; rfl) | (push_cast; omega)) (by first | exact fl_length _ | (rw [fl_length]; omega)) (by omega)) ?_
              refine VL.q (.inl rfl) rfl (by decide) (yq_loadF rfl fb23_Chol rfl (by first | exact Sees.root (by assumption) | exact Sees.at 0 rfl | exact Sees.at 1 rfl | exact Sees.at 2 rfl | exact Sees.at 3 rfl | exact Sees.at 4 rfl | exact Sees.at 5 rfl | exact Sees.at 6 rfl | exact Sees.at 7 rfl | exact Sees.at 8 rfl | exact Sees.at 9 rfl | exact Sees.at 10 rfl | exact Sees.at 11 rfl | exact Sees.at 12 rfl | exact Sees.at 13 rfl | exact Sees.at 14 rfl | exact Sees.at 15 rfl | exact Sees.at 16 rfl | exact Sees.at 17 rfl | exact Sees.at 18 rfl | exact Sees.at 19 rfl | exact Sees.own (List.mem_append.2 (.inr (.head _)))) (by omega)) ?_
              refine VL.r (.inl rfl) rfl (by decide) (yr_float rfl (.inr (.inr (.inr rfl))) rfl rfl) ?_
              refine VL.q (.inl rfl) rfl (by decide) (yq_idx (k := (((j + 1 + c) * n) + j)) rfl Try.underlying22 sz23_Chol rfl rfl (by first | exact Sees.root (by assumption) | exact Sees.at 0 rfl | exact Sees.at 1 rfl | exact Sees.at 2 rfl | exact Sees.at 3 rfl | exact Sees.at 4 rfl | exact Sees.at 5 rfl | exact Sees.at 6 rfl | exact Sees.at 7 rfl | exact Sees.at 8 rfl | exact Sees.at 9 rfl | exact Sees.at 10 rfl | exact Sees.at 11 rfl | exact Sees.at 12 rfl | exact Sees.at 13 rfl | exact Sees.at 14 rfl | exact Sees.at 15 rfl | exact Sees.at 16 rfl | exact Sees.at 17 rfl | exact Sees.at 18 rfl | exact Sees.at 19 rfl | exact Sees.own (List.mem_append.2 (.inr (.head _)))) (by first | rfl | omega | (push_cast; rfl) | (push_cast; omega)) (by first | exact fl_length _ | (rw [fl_length]; omega)) (by omega)) ?_
              refine VL.s (.inl rfl) rfl (yc_store rfl sz23_Chol rfl rfl (by first | exact .here | exact .there .here | exact .there (.there .here) | exact .there (.there (.there .here)) | exact .there (.there (.there (.there .here))) | exact .there (.there (.there (.there (.there .here)))) | exact .there (.there (.there (.there (.there (.there .here))))) | exact .there (.there (.there (.there (.there (.there (.there .here)))))) | exact .there (.there (.there (.there (.there (.there (.there (.there .here))))))) | exact .there (.there (.there (.there (.there (.there (.there (.there (.there .here)))))))) | exact .thereS .here) (.inl ⟨rfl, rfl⟩) rfl (by rw [fl_length]; omega) (by decide) (fl_set _ _ _)) ?_
              rintro ⟨⟩
              refine VL.nil ?_
              refine VE.block_normal ?_
              refine VE.then_wp ?_
              refine V.region ?_
              refine VL.r (.inl rfl) rfl (by decide) (yr_move rfl rfl) ?_
              refine VL.r (.inl rfl) rfl (by decide) (yr_int rfl rfl rfl (.inl ⟨rfl, wrap_in (by omega)⟩)) ?_
              refine VL.r (.inl rfl) rfl (by decide) (yr_assign rfl rfl) ?_
              refine VL.nil ?_
              refine VE.round (c + 1, m.set ((j + 1 + c) * n + j) (fop .quo .f32 (cX xs m n (j + 1 + c) j q) (m.getD (j * n + j) 0))) ?_ ?_ ?_ ?_ ?_
              · exact (.cons (congrArg (fun i => some (Value.int .i64 i)) (by omega)) .nil)
              · exact (.cons rfl (.cons rfl (.cons rfl (.cons rfl (.cons rfl (.cons rfl .nil))))))
              · exact (fun w hw => hw)
              · obtain rfl : q = j := by omega
                refine ⟨by omega, by simp [hml], ?_⟩
                rw [cCol, ← hm]
              · (try dsimp only); omega
          · skip
            replace h5 := ic_lss' h5
            refine V.exit ?_
            refine VE.then_exit ?_
            refine VE.then_exit ?_
            refine VE.block_here ?_
            refine VE.block_normal ?_
            refine VE.then_wp ?_
            refine V.region ?_
            refine VL.r (.inl rfl) rfl (by decide) (yr_int rfl rfl rfl (.inl ⟨rfl, wrap_in (by omega)⟩)) ?_
            refine VL.r (.inl rfl) rfl (by decide) (yr_move rfl rfl) ?_
            refine VL.nil ?_
            refine VE.round (j + 1, m) ?_ ?_ ?_ ?_ ?_
            · exact (.cons rfl .nil)
            · exact (.cons rfl (.cons rfl (.cons rfl (.cons rfl .nil))))
            · exact (fun w hw => hw)
            · refine ⟨by omega, hml, ?_, fun t ht => ?_⟩
              · rw [hm, chol, ← hl, show n - (j + 1) = c by omega]
              · rcases Nat.lt_or_ge t j with g | g
                · exact hc t g
                · obtain rfl : t = j := by omega
                  obtain rfl : k = t := by omega
                  rw [← hl]; assumption
            · (try dsimp only); omega
    · skip
      replace h2 := ic_lss' h2
      refine V.exit ?_
      refine VE.then_exit ?_
      refine VE.then_exit ?_
      refine VE.block_here ?_
      refine VE.then_wp ?_
      refine V.seq ?_
      refine V.region ?_
      refine VL.r (.inl rfl) rfl (by decide) (yr_move rfl rfl) ?_
      refine VL.r (.inl rfl) rfl (by decide) (yr_assign rfl rfl) ?_
      refine VL.r (.inl rfl) rfl (by decide) (yr_assign (u := .bool true) rfl rfl) ?_
      refine VL.nil ?_
      refine VE.then_wp ?_
      refine V.ret ?_
      refine ret2 rfl rfl rfl (by nofun) (by nofun) (fun w1 hw => ?_)
      obtain rfl : n = j := by omega
      have hs : cholOk xs n = true := chol_yes (by omega) hc
      have hso : cholOf xs n = l := by rw [cholOf_yes hs, hl]
      exact ⟨(some ⟨b23, 0, none⟩, n * n), by rw [hso, hs, hll], by rw [hso]; exact hw.out1⟩

theorem law_Chol {w : World} {a : Option Addr} {c : Nat} {xs : List Nat} (hA : Cl w a (fl xs)) (hX : ∀ x ∈ xs, Can .f32 x) : Pure Try.prog 7 [.slice a xs.length c] w (.bool true) := by
  obtain ⟨n, hn⟩ : ∃ n, n = side xs.length := ⟨_, rfl⟩
  have hn8 : n ≤ 8 := by rw [hn]; exact side_le _
  have hS := can_cholOf xs n
  have hSl := length_cholOf (a := xs) hn8
  refine Pure.enter Try.func7 rfl Try.ntmps7 (Nat.le_of_ble_eq_true rfl) ?_
  refine V.seq ?_
  refine V.region ?_
  refine VL.r (.inl rfl) rfl (by decide) (yr_assign (u := .bool false) rfl rfl) ?_
  refine VL.nil ?_
  refine VE.then_wp ?_
  refine V.seq ?_
  refine V.seq ?_
  refine V.region ?_
  refine VL.r (.inl rfl) rfl (by decide) (yr_move rfl rfl) ?_
  refine VL.r (.inl rfl) rfl (by decide) (yr_len rfl Try.underlying22 rfl) ?_
  refine VL.r (.inl rfl) rfl (by decide) (yr_icmp rfl (.inr (.inr (.inr (.inr (.inl rfl))))) rfl rfl) ?_
  refine VL.nil ?_
  refine VE.then_wp ?_
  refine V.cond rfl (fun h1 => ?_) (fun h1 => ?_)
  · skip
    replace h1 := ic_gtr h1
    refine V.seq ?_
    refine V.region ?_
    refine VL.r (.inl rfl) rfl (by decide) (yr_assign (u := .bool true) rfl rfl) ?_
    refine VL.nil ?_
    refine VE.then_wp ?_
    refine V.ret ?_
    refine VE.then_ret ?_
    refine ret1 rfl rfl (fun w1 hw => ?_)
    exact ⟨rfl, hw.below⟩
  · skip
    replace h1 := ic_gtr' h1
    refine V.skip ?_
    refine VE.then_wp ?_
    refine V.seq ?_
    refine V.region ?_
    refine VL.r (.inl rfl) rfl (by decide) (yr_move rfl rfl) ?_
    refine VL.new1 (.inl rfl) rfl (by decide) (yn_callf rfl known10_Chol (.cons rfl .nil) (fun w hw => c_toF (by first | exact Sees.root (by assumption) w hw | exact Sees.at 0 rfl w hw | exact Sees.at 1 rfl w hw | exact Sees.at 2 rfl w hw | exact Sees.at 3 rfl w hw | exact Sees.at 4 rfl w hw | exact Sees.at 5 rfl w hw | exact Sees.at 6 rfl w hw | exact Sees.at 7 rfl w hw | exact Sees.at 8 rfl w hw | exact Sees.at 9 rfl w hw | exact Sees.at 10 rfl w hw | exact Sees.at 11 rfl w hw | exact Sees.at 12 rfl w hw | exact Sees.at 13 rfl w hw | exact Sees.at 14 rfl w hw | exact Sees.at 15 rfl w hw | exact Sees.at 16 rfl w hw | exact Sees.at 17 rfl w hw | exact Sees.at 18 rfl w hw | exact Sees.at 19 rfl w hw | exact Sees.own (List.mem_append.2 (.inr (.head _))) w hw) (by omega))) ?_
    rintro ⟨a18, c18⟩
    refine VL.new1 (.inl rfl) rfl (by decide) (yn_callf rfl known24_Chol (.cons rfl .nil) (fun w hw => (c_specChol (by first | exact Sees.root (by assumption) w hw | exact Sees.at 0 rfl w hw | exact Sees.at 1 rfl w hw | exact Sees.at 2 rfl w hw | exact Sees.at 3 rfl w hw | exact Sees.at 4 rfl w hw | exact Sees.at 5 rfl w hw | exact Sees.at 6 rfl w hw | exact Sees.at 7 rfl w hw | exact Sees.at 8 rfl w hw | exact Sees.at 9 rfl w hw | exact Sees.at 10 rfl w hw | exact Sees.at 11 rfl w hw | exact Sees.at 12 rfl w hw | exact Sees.at 13 rfl w hw | exact Sees.at 14 rfl w hw | exact Sees.at 15 rfl w hw | exact Sees.at 16 rfl w hw | exact Sees.at 17 rfl w hw | exact Sees.at 18 rfl w hw | exact Sees.at 19 rfl w hw | exact Sees.own (List.mem_append.2 (.inr (.head _))) w hw) (by omega) (by assumption)))) ?_
    rintro ⟨a19, c19⟩
    refine VL.r (.inl rfl) rfl (by decide) (yr_move rfl rfl) ?_
    refine VL.r (.inl rfl) rfl (by decide) (yr_extract rfl rfl rfl (by nofun)) ?_
    refine VL.r (.inl rfl) rfl (by decide) (yr_extract rfl rfl rfl (by nofun)) ?_
    refine VL.r (.inl rfl) rfl (by decide) (yr_assign rfl rfl) ?_
    refine VL.r (.inl rfl) rfl (by decide) (yr_assign rfl rfl) ?_
    refine VL.nil ?_
    refine VE.then_wp ?_
    refine V.seq ?_
    refine V.region ?_
    refine VL.r (.inl rfl) rfl (by decide) (yr_move rfl rfl) ?_
    refine VL.new1 (.inl rfl) rfl (by decide) (yn_callf rfl known10_Chol (.cons rfl .nil) (fun w hw => c_toF (by first | exact Sees.root (by assumption) w hw | exact Sees.at 0 rfl w hw | exact Sees.at 1 rfl w hw | exact Sees.at 2 rfl w hw | exact Sees.at 3 rfl w hw | exact Sees.at 4 rfl w hw | exact Sees.at 5 rfl w hw | exact Sees.at 6 rfl w hw | exact Sees.at 7 rfl w hw | exact Sees.at 8 rfl w hw | exact Sees.at 9 rfl w hw | exact Sees.at 10 rfl w hw | exact Sees.at 11 rfl w hw | exact Sees.at 12 rfl w hw | exact Sees.at 13 rfl w hw | exact Sees.at 14 rfl w hw | exact Sees.at 15 rfl w hw | exact Sees.at 16 rfl w hw | exact Sees.at 17 rfl w hw | exact Sees.at 18 rfl w hw | exact Sees.at 19 rfl w hw | exact Sees.own (List.mem_append.2 (.inr (.head _))) w hw) (by omega))) ?_
    rintro ⟨a23, c23⟩
    refine VL.r (.inl rfl) rfl (by decide) (yr_assign rfl rfl) ?_
    refine VL.nil ?_
    refine VE.then_wp ?_
    refine V.seq ?_
    refine V.region ?_
    refine VL.r (.inl rfl) rfl (by decide) (yr_move rfl rfl) ?_
    refine VL.new1 (.inl rfl) rfl (by decide) (yn_callf rfl known25_Chol (.cons rfl .nil) (fun w hw => (c_implChol (by first | exact Sees.root (by assumption) w hw | exact Sees.at 0 rfl w hw | exact Sees.at 1 rfl w hw | exact Sees.at 2 rfl w hw | exact Sees.at 3 rfl w hw | exact Sees.at 4 rfl w hw | exact Sees.at 5 rfl w hw | exact Sees.at 6 rfl w hw | exact Sees.at 7 rfl w hw | exact Sees.at 8 rfl w hw | exact Sees.at 9 rfl w hw | exact Sees.at 10 rfl w hw | exact Sees.at 11 rfl w hw | exact Sees.at 12 rfl w hw | exact Sees.at 13 rfl w hw | exact Sees.at 14 rfl w hw | exact Sees.at 15 rfl w hw | exact Sees.at 16 rfl w hw | exact Sees.at 17 rfl w hw | exact Sees.at 18 rfl w hw | exact Sees.at 19 rfl w hw | exact Sees.own (List.mem_append.2 (.inr (.head _))) w hw) (by omega) (by assumption)))) ?_
    rintro ⟨a26, c26⟩
    refine VL.r (.inl rfl) rfl (by decide) (yr_move rfl rfl) ?_
    refine VL.r (.inl rfl) rfl (by decide) (yr_extract rfl rfl rfl (by nofun)) ?_
    refine VL.r (.inl rfl) rfl (by decide) (yr_extract rfl rfl rfl (by nofun)) ?_
    refine VL.r (.inl rfl) rfl (by decide) (yr_assign rfl rfl) ?_
    refine VL.r (.inl rfl) rfl (by decide) (yr_assign rfl rfl) ?_
    refine VL.nil ?_
    refine VE.then_wp ?_
    refine V.seq ?_
    refine V.seq ?_
    refine V.region ?_
    refine VL.r (.inl rfl) rfl (by decide) (yr_move rfl rfl) ?_
    refine VL.r (.inl rfl) rfl (by decide) (yr_move rfl rfl) ?_
    refine VL.q (.inl rfl) rfl (by decide) (yq_callf rfl known12_Chol (.cons rfl (.cons rfl .nil)) (fun w hw => c_eqF (by first | exact Sees.root (by assumption) w hw | exact Sees.at 0 rfl w hw | exact Sees.at 1 rfl w hw | exact Sees.at 2 rfl w hw | exact Sees.at 3 rfl w hw | exact Sees.at 4 rfl w hw | exact Sees.at 5 rfl w hw | exact Sees.at 6 rfl w hw | exact Sees.at 7 rfl w hw | exact Sees.at 8 rfl w hw | exact Sees.at 9 rfl w hw | exact Sees.at 10 rfl w hw | exact Sees.at 11 rfl w hw | exact Sees.at 12 rfl w hw | exact Sees.at 13 rfl w hw | exact Sees.at 14 rfl w hw | exact Sees.at 15 rfl w hw | exact Sees.at 16 rfl w hw | exact Sees.at 17 rfl w hw | exact Sees.at 18 rfl w hw | exact Sees.at 19 rfl w hw | exact Sees.own (List.mem_append.2 (.inr (.head _))) w hw) (by first | exact Sees.root (by assumption) w hw | exact Sees.at 0 rfl w hw | exact Sees.at 1 rfl w hw | exact Sees.at 2 rfl w hw | exact Sees.at 3 rfl w hw | exact Sees.at 4 rfl w hw | exact Sees.at 5 rfl w hw | exact Sees.at 6 rfl w hw | exact Sees.at 7 rfl w hw | exact Sees.at 8 rfl w hw | exact Sees.at 9 rfl w hw | exact Sees.at 10 rfl w hw | exact Sees.at 11 rfl w hw | exact Sees.at 12 rfl w hw | exact Sees.at 13 rfl w hw | exact Sees.at 14 rfl w hw | exact Sees.at 15 rfl w hw | exact Sees.at 16 rfl w hw | exact Sees.at 17 rfl w hw | exact Sees.at 18 rfl w hw | exact Sees.at 19 rfl w hw | exact Sees.own (List.mem_append.2 (.inr (.head _))) w hw) (by first | assumption | exact can_up _ | exact can_fop _ _ _ _ | exact can_of _ (by assumption)) (by first | assumption | exact can_up _ | exact can_fop _ _ _ _ | exact can_of _ (by assumption)) (by omega))) ?_
    refine VL.r (.inl rfl) rfl (by decide) (yr_not rfl rfl) ?_
    refine VL.r (.inl rfl) rfl (by decide) (yr_move rfl rfl) ?_
    refine VX.split 33 _ rfl (fun h2 => ?_) (fun h2 => ?_)
    · skip
      replace h2 := bnot_t h2
      first | (exfalso; omega) | (simp [bcmp] at h2; done)
    · skip
      replace h2 := bnot_f h2
      refine VL.r (.inr ⟨_, _, _, rfl, rfl, rfl⟩) rfl (by decide) (yr_move rfl rfl) ?_
      refine VL.r (.inr ⟨_, _, _, rfl, rfl, rfl⟩) rfl (by decide) (yr_move rfl rfl) ?_
      refine VL.r (.inr ⟨_, _, _, rfl, rfl, rfl⟩) rfl (by decide) (yr_bcmp rfl Try.underlying4 rfl rfl (.inr rfl)) ?_
      refine VL.r (.inl rfl) rfl (by decide) (yr_pick_f rfl rfl rfl) ?_
      refine VL.nil ?_
      refine VE.then_wp ?_
      refine V.cond rfl (fun h3 => ?_) (fun h3 => ?_)
      · skip
        first | (exfalso; omega) | (simp [bcmp] at h3; done)
      · skip
        refine V.skip ?_
        refine VE.then_wp ?_
        refine V.seq ?_
        refine V.seq ?_
        refine V.region ?_
        refine VL.r (.inl rfl) rfl (by decide) (yr_move rfl rfl) ?_
        refine VL.r (.inl rfl) rfl (by decide) (yr_move rfl rfl) ?_
        refine VL.new1 (.inl rfl) rfl (by decide) (yn_callf rfl known10_Chol (.cons rfl .nil) (fun w hw => c_toF (by first | exact Sees.root (by assumption) w hw | exact Sees.at 0 rfl w hw | exact Sees.at 1 rfl w hw | exact Sees.at 2 rfl w hw | exact Sees.at 3 rfl w hw | exact Sees.at 4 rfl w hw | exact Sees.at 5 rfl w hw | exact Sees.at 6 rfl w hw | exact Sees.at 7 rfl w hw | exact Sees.at 8 rfl w hw | exact Sees.at 9 rfl w hw | exact Sees.at 10 rfl w hw | exact Sees.at 11 rfl w hw | exact Sees.at 12 rfl w hw | exact Sees.at 13 rfl w hw | exact Sees.at 14 rfl w hw | exact Sees.at 15 rfl w hw | exact Sees.at 16 rfl w hw | exact Sees.at 17 rfl w hw | exact Sees.at 18 rfl w hw | exact Sees.at 19 rfl w hw | exact Sees.own (List.mem_append.2 (.inr (.head _))) w hw) (by omega))) ?_
        rintro ⟨a40, c40⟩
        refine VL.q (.inl rfl) rfl (by decide) (yq_callf rfl known12_Chol (.cons rfl (.cons rfl .nil)) (fun w hw => c_eqF (by first | exact Sees.root (by assumption) w hw | exact Sees.at 0 rfl w hw | exact Sees.at 1 rfl w hw | exact Sees.at 2 rfl w hw | exact Sees.at 3 rfl w hw | exact Sees.at 4 rfl w hw | exact Sees.at 5 rfl w hw | exact Sees.at 6 rfl w hw | exact Sees.at 7 rfl w hw | exact Sees.at 8 rfl w hw | exact Sees.at 9 rfl w hw | exact Sees.at 10 rfl w hw | exact Sees.at 11 rfl w hw | exact Sees.at 12 rfl w hw | exact Sees.at 13 rfl w hw | exact Sees.at 14 rfl w hw | exact Sees.at 15 rfl w hw | exact Sees.at 16 rfl w hw | exact Sees.at 17 rfl w hw | exact Sees.at 18 rfl w hw | exact Sees.at 19 rfl w hw | exact Sees.own (List.mem_append.2 (.inr (.head _))) w hw) (by first | exact Sees.root (by assumption) w hw | exact Sees.at 0 rfl w hw | exact Sees.at 1 rfl w hw | exact Sees.at 2 rfl w hw | exact Sees.at 3 rfl w hw | exact Sees.at 4 rfl w hw | exact Sees.at 5 rfl w hw | exact Sees.at 6 rfl w hw | exact Sees.at 7 rfl w hw | exact Sees.at 8 rfl w hw | exact Sees.at 9 rfl w hw | exact Sees.at 10 rfl w hw | exact Sees.at 11 rfl w hw | exact Sees.at 12 rfl w hw | exact Sees.at 13 rfl w hw | exact Sees.at 14 rfl w hw | exact Sees.at 15 rfl w hw | exact Sees.at 16 rfl w hw | exact Sees.at 17 rfl w hw | exact Sees.at 18 rfl w hw | exact Sees.at 19 rfl w hw | exact Sees.own (List.mem_append.2 (.inr (.head _))) w hw) (by first | assumption | exact can_up _ | exact can_fop _ _ _ _ | exact can_of _ (by assumption)) (by first | assumption | exact can_up _ | exact can_fop _ _ _ _ | exact can_of _ (by assumption)) (by omega))) ?_
        refine VL.r (.inl rfl) rfl (by decide) (yr_not rfl rfl) ?_
        refine VL.nil ?_
        refine VE.then_wp ?_
        refine V.cond rfl (fun h4 => ?_) (fun h4 => ?_)
        · skip
          replace h4 := bnot_t h4
          first | (exfalso; omega) | (simp [bcmp] at h4; done)
        · skip
          replace h4 := bnot_f h4
          refine V.skip ?_
          refine VE.then_wp ?_
          refine V.seq ?_
          refine V.region ?_
          refine VL.r (.inl rfl) rfl (by decide) (yr_assign (u := .int .i64 1) rfl rfl) ?_
          refine VL.nil ?_
          refine VE.then_wp ?_
          refine V.seq ?_
          refine V.region ?_
          refine VL.r (.inl rfl) rfl (by decide) (yr_move rfl rfl) ?_
          refine VL.r (.inl rfl) rfl (by decide) (yr_move rfl rfl) ?_
          refine VL.c (.inl rfl) rfl (by decide) (yc_callf rfl known13_Chol (.cons rfl (.cons rfl .nil)) (by first | exact .take .here .nil | exact .take (.there .here) .nil | exact .take (.there (.there .here)) .nil | exact .take (.there (.there (.there .here))) .nil | exact .take (.there (.there (.there (.there .here)))) .nil | exact .take (.there (.there (.there (.there (.there .here))))) .nil | exact .take (.there (.there (.there (.there (.there (.there .here)))))) .nil | exact .take (.there (.there (.there (.there (.there (.there (.there .here))))))) .nil | exact .take (.there (.there (.there (.there (.there (.there (.there (.there .here)))))))) .nil | exact .take (.there (.there (.there (.there (.there (.there (.there (.there (.there .here))))))))) .nil | exact .take (.there (.there (.there (.there (.there (.there (.there (.there (.there (.there .here)))))))))) .nil | exact .take (.there (.there (.there (.there (.there (.there (.there (.there (.there (.there (.there .here))))))))))) .nil | exact .take (.there (.there (.there (.there (.there (.there (.there (.there (.there (.there (.there (.there .here)))))))))))) .nil | exact .take (.there (.there (.there (.there (.there (.there (.there (.there (.there (.there (.there (.there (.there .here))))))))))))) .nil) (c_markF (by omega) (by omega) (by omega))) ?_
          rintro ⟨⟩
          refine VL.r (.inl rfl) rfl (by decide) (yr_assign rfl rfl) ?_
          refine VL.nil ?_
          refine VE.then_wp ?_
          refine V.seq ?_
          refine V.seq ?_
          refine V.region ?_
          refine VL.r (.inl rfl) rfl (by decide) (yr_move rfl rfl) ?_
          refine VL.r (.inl rfl) rfl (by decide) (yr_icmp rfl (.inr (.inr (.inl rfl))) rfl rfl) ?_
          refine VL.r (.inl rfl) rfl (by decide) (yr_move rfl rfl) ?_
          refine VX.split 48 _ rfl (fun h5 => ?_) (fun h5 => ?_)
          · skip
            replace h5 := ic_lss h5
            first | (exfalso; omega) | (simp [bcmp] at h5; done)
          · skip
            replace h5 := ic_lss' h5
            refine VL.r (.inr ⟨_, _, _, rfl, rfl, rfl⟩) rfl (by decide) (yr_move rfl rfl) ?_
            refine VL.r (.inr ⟨_, _, _, rfl, rfl, rfl⟩) rfl (by decide) (yr_move rfl rfl) ?_
            refine VL.q (.inr ⟨_, _, _, rfl, rfl, rfl⟩) rfl (by decide) (yq_callf rfl known12_Chol (.cons rfl (.cons rfl .nil)) (fun w hw => c_eqF (by first | exact Sees.root (by assumption) w hw | exact Sees.at 0 rfl w hw | exact Sees.at 1 rfl w hw | exact Sees.at 2 rfl w hw | exact Sees.at 3 rfl w hw | exact Sees.at 4 rfl w hw | exact Sees.at 5 rfl w hw | exact Sees.at 6 rfl w hw | exact Sees.at 7 rfl w hw | exact Sees.at 8 rfl w hw | exact Sees.at 9 rfl w hw | exact Sees.at 10 rfl w hw | exact Sees.at 11 rfl w hw | exact Sees.at 12 rfl w hw | exact Sees.at 13 rfl w hw | exact Sees.at 14 rfl w hw | exact Sees.at 15 rfl w hw | exact Sees.at 16 rfl w hw | exact Sees.at 17 rfl w hw | exact Sees.at 18 rfl w hw | exact Sees.at 19 rfl w hw | exact Sees.own (List.mem_append.2 (.inr (.head _))) w hw) (by first | exact Sees.root (by assumption) w hw | exact Sees.at 0 rfl w hw | exact Sees.at 1 rfl w hw | exact Sees.at 2 rfl w hw | exact Sees.at 3 rfl w hw | exact Sees.at 4 rfl w hw | exact Sees.at 5 rfl w hw | exact Sees.at 6 rfl w hw | exact Sees.at 7 rfl w hw | exact Sees.at 8 rfl w hw | exact Sees.at 9 rfl w hw | exact Sees.at 10 rfl w hw | exact Sees.at 11 rfl w hw | exact Sees.at 12 rfl w hw | exact Sees.at 13 rfl w hw | exact Sees.at 14 rfl w hw | exact Sees.at 15 rfl w hw | exact Sees.at 16 rfl w hw | exact Sees.at 17 rfl w hw | exact Sees.at 18 rfl w hw | exact Sees.at 19 rfl w hw | exact Sees.own (List.mem_append.2 (.inr (.head _))) w hw) (by first | assumption | exact can_up _ | exact can_fop _ _ _ _ | exact can_of _ (by assumption)) (by first | assumption | exact can_up _ | exact can_fop _ _ _ _ | exact can_of _ (by assumption)) (by omega))) ?_
            refine VL.r (.inr ⟨_, _, _, rfl, rfl, rfl⟩) rfl (by decide) (yr_not rfl rfl) ?_
            refine VL.r (.inl rfl) rfl (by decide) (yr_pick_f rfl rfl rfl) ?_
            refine VL.r (.inl rfl) rfl (by decide) (yr_move rfl rfl) ?_
            refine VX.split 54 _ rfl (fun h6 => ?_) (fun h6 => ?_)
            · skip
              replace h6 := bnot_t h6
              first | (exfalso; omega) | (simp [bcmp] at h6; done)
            · skip
              replace h6 := bnot_f h6
              refine VL.r (.inr ⟨_, _, _, rfl, rfl, rfl⟩) rfl (by decide) (yr_move rfl rfl) ?_
              refine VL.r (.inr ⟨_, _, _, rfl, rfl, rfl⟩) rfl (by decide) (yr_move rfl rfl) ?_
              refine VL.r (.inr ⟨_, _, _, rfl, rfl, rfl⟩) rfl (by decide) (yr_bcmp rfl Try.underlying4 rfl rfl (.inr rfl)) ?_
              refine VL.r (.inl rfl) rfl (by decide) (yr_pick_f rfl rfl rfl) ?_
              refine VL.nil ?_
              refine VE.then_wp ?_
              refine V.cond rfl (fun h7 => ?_) (fun h7 => ?_)
              · skip
                first | (exfalso; omega) | (simp [bcmp] at h7; done)
              · skip
                refine V.skip ?_
                refine VE.then_wp ?_
                refine V.seq ?_
                refine V.region ?_
                refine VL.r (.inl rfl) rfl (by decide) (yr_assign (u := .int .i64 1) rfl rfl) ?_
                refine VL.nil ?_
                refine VE.then_wp ?_
                refine V.seq ?_
                refine V.region ?_
                refine VL.r (.inl rfl) rfl (by decide) (yr_move rfl rfl) ?_
                refine VL.r (.inl rfl) rfl (by decide) (yr_move rfl rfl) ?_
                refine VL.c (.inl rfl) rfl (by decide) (yc_callf rfl known13_Chol (.cons rfl (.cons rfl .nil)) (by first | exact .take .here .nil | exact .take (.there .here) .nil | exact .take (.there (.there .here)) .nil | exact .take (.there (.there (.there .here))) .nil | exact .take (.there (.there (.there (.there .here)))) .nil | exact .take (.there (.there (.there (.there (.there .here))))) .nil | exact .take (.there (.there (.there (.there (.there (.there .here)))))) .nil | exact .take (.there (.there (.there (.there (.there (.there (.there .here))))))) .nil | exact .take (.there (.there (.there (.there (.there (.there (.there (.there .here)))))))) .nil | exact .take (.there (.there (.there (.there (.there (.there (.there (.there (.there .here))))))))) .nil | exact .take (.there (.there (.there (.there (.there (.there (.there (.there (.there (.there .here)))))))))) .nil | exact .take (.there (.there (.there (.there (.there (.there (.there (.there (.there (.there (.there .here))))))))))) .nil | exact .take (.there (.there (.there (.there (.there (.there (.there (.there (.there (.there (.there (.there .here)))))))))))) .nil | exact .take (.there (.there (.there (.there (.there (.there (.there (.there (.there (.there (.there (.there (.there .here))))))))))))) .nil) (c_markF (by omega) (by omega) (by omega))) ?_
                rintro ⟨⟩
                refine VL.r (.inl rfl) rfl (by decide) (yr_assign rfl rfl) ?_
                refine VL.nil ?_
                refine VE.then_wp ?_
                refine V.seq ?_
                refine V.region ?_
                refine VL.r (.inl rfl) rfl (by decide) (yr_assign (u := .int .i64 1) rfl rfl) ?_
                refine VL.nil ?_
                refine VE.then_wp ?_
                refine V.seq ?_
                refine V.region ?_
                refine VL.r (.inl rfl) rfl (by decide) (yr_move rfl rfl) ?_
                refine VL.r (.inl rfl) rfl (by decide) (yr_move rfl rfl) ?_
                refine VL.q (.inl rfl) rfl (by decide) (yq_callf rfl known14_Chol (.cons rfl (.cons rfl .nil)) (fun w hw => c_heldF (by first | exact Sees.root (by assumption) w hw | exact Sees.at 0 rfl w hw | exact Sees.at 1 rfl w hw | exact Sees.at 2 rfl w hw | exact Sees.at 3 rfl w hw | exact Sees.at 4 rfl w hw | exact Sees.at 5 rfl w hw | exact Sees.at 6 rfl w hw | exact Sees.at 7 rfl w hw | exact Sees.at 8 rfl w hw | exact Sees.at 9 rfl w hw | exact Sees.at 10 rfl w hw | exact Sees.at 11 rfl w hw | exact Sees.at 12 rfl w hw | exact Sees.at 13 rfl w hw | exact Sees.at 14 rfl w hw | exact Sees.at 15 rfl w hw | exact Sees.at 16 rfl w hw | exact Sees.at 17 rfl w hw | exact Sees.at 18 rfl w hw | exact Sees.at 19 rfl w hw | exact Sees.own (List.mem_append.2 (.inr (.head _))) w hw) (by omega) (by omega) (by omega))) ?_
                refine VL.r (.inl rfl) rfl (by decide) (yr_assign rfl rfl) ?_
                refine VL.nil ?_
                refine VE.then_wp ?_
                refine V.seq ?_
                refine V.seq ?_
                refine V.region ?_
                refine VL.r (.inl rfl) rfl (by decide) (yr_move rfl rfl) ?_
                refine VL.r (.inl rfl) rfl (by decide) (yr_icmp rfl (.inr (.inr (.inl rfl))) rfl rfl) ?_
                refine VL.nil ?_
                refine VE.then_wp ?_
                refine V.cond rfl (fun h8 => ?_) (fun h8 => ?_)
                · skip
                  replace h8 := ic_lss h8
                  first | (exfalso; omega) | (simp [bcmp] at h8; done)
                · skip
                  replace h8 := ic_lss' h8
                  refine V.skip ?_
                  refine VE.then_wp ?_
                  refine V.seq ?_
                  refine V.seq ?_
                  refine V.region ?_
                  refine VL.r (.inl rfl) rfl (by decide) (yr_move rfl rfl) ?_
                  refine VL.r (.inl rfl) rfl (by decide) (yr_move rfl rfl) ?_
                  refine VL.r (.inl rfl) rfl (by decide) (yr_icmp rfl (.inr (.inl rfl)) rfl rfl) ?_
                  refine VL.nil ?_
                  refine VE.then_wp ?_
                  refine V.cond rfl (fun h9 => ?_) (fun h9 => ?_)
                  · skip
                    replace h9 := ic_neq h9
                    first | (exfalso; omega) | (simp [bcmp] at h9; done)
                  · skip
                    replace h9 := ic_neq' h9
                    refine V.skip ?_
                    refine VE.then_wp ?_
                    refine V.seq ?_
                    refine V.region ?_
                    refine VL.r (.inl rfl) rfl (by decide) (yr_move rfl rfl) ?_
                    refine VL.new1 (.inl rfl) rfl (by decide) (yn_callf rfl known10_Chol (.cons rfl .nil) (fun w hw => c_toF (by first | exact Sees.root (by assumption) w hw | exact Sees.at 0 rfl w hw | exact Sees.at 1 rfl w hw | exact Sees.at 2 rfl w hw | exact Sees.at 3 rfl w hw | exact Sees.at 4 rfl w hw | exact Sees.at 5 rfl w hw | exact Sees.at 6 rfl w hw | exact Sees.at 7 rfl w hw | exact Sees.at 8 rfl w hw | exact Sees.at 9 rfl w hw | exact Sees.at 10 rfl w hw | exact Sees.at 11 rfl w hw | exact Sees.at 12 rfl w hw | exact Sees.at 13 rfl w hw | exact Sees.at 14 rfl w hw | exact Sees.at 15 rfl w hw | exact Sees.at 16 rfl w hw | exact Sees.at 17 rfl w hw | exact Sees.at 18 rfl w hw | exact Sees.at 19 rfl w hw | exact Sees.own (List.mem_append.2 (.inr (.head _))) w hw) (by omega))) ?_
                    rintro ⟨a72, c72⟩
                    refine VL.new1 (.inl rfl) rfl (by decide) (yn_callf rfl known25_Chol (.cons rfl .nil) (fun w hw => (c_implChol (by first | exact Sees.root (by assumption) w hw | exact Sees.at 0 rfl w hw | exact Sees.at 1 rfl w hw | exact Sees.at 2 rfl w hw | exact Sees.at 3 rfl w hw | exact Sees.at 4 rfl w hw | exact Sees.at 5 rfl w hw | exact Sees.at 6 rfl w hw | exact Sees.at 7 rfl w hw | exact Sees.at 8 rfl w hw | exact Sees.at 9 rfl w hw | exact Sees.at 10 rfl w hw | exact Sees.at 11 rfl w hw | exact Sees.at 12 rfl w hw | exact Sees.at 13 rfl w hw | exact Sees.at 14 rfl w hw | exact Sees.at 15 rfl w hw | exact Sees.at 16 rfl w hw | exact Sees.at 17 rfl w hw | exact Sees.at 18 rfl w hw | exact Sees.at 19 rfl w hw | exact Sees.own (List.mem_append.2 (.inr (.head _))) w hw) (by omega) (by assumption)))) ?_
                    rintro ⟨a73, c73⟩
                    refine VL.r (.inl rfl) rfl (by decide) (yr_move rfl rfl) ?_
                    refine VL.r (.inl rfl) rfl (by decide) (yr_extract rfl rfl rfl (by nofun)) ?_
                    refine VL.r (.inl rfl) rfl (by decide) (yr_extract rfl rfl rfl (by nofun)) ?_
                    refine VL.r (.inl rfl) rfl (by decide) (yr_assign rfl rfl) ?_
                    refine VL.r (.inl rfl) rfl (by decide) (yr_assign rfl rfl) ?_
                    refine VL.nil ?_
                    refine VE.then_wp ?_
                    refine V.seq ?_
                    refine V.seq ?_
                    refine V.region ?_
                    refine VL.r (.inl rfl) rfl (by decide) (yr_move rfl rfl) ?_
                    refine VL.r (.inl rfl) rfl (by decide) (yr_move rfl rfl) ?_
                    refine VL.q (.inl rfl) rfl (by decide) (yq_callf rfl known12_Chol (.cons rfl (.cons rfl .nil)) (fun w hw => c_eqF (by first | exact Sees.root (by assumption) w hw | exact Sees.at 0 rfl w hw | exact Sees.at 1 rfl w hw | exact Sees.at 2 rfl w hw | exact Sees.at 3 rfl w hw | exact Sees.at 4 rfl w hw | exact Sees.at 5 rfl w hw | exact Sees.at 6 rfl w hw | exact Sees.at 7 rfl w hw | exact Sees.at 8 rfl w hw | exact Sees.at 9 rfl w hw | exact Sees.at 10 rfl w hw | exact Sees.at 11 rfl w hw | exact Sees.at 12 rfl w hw | exact Sees.at 13 rfl w hw | exact Sees.at 14 rfl w hw | exact Sees.at 15 rfl w hw | exact Sees.at 16 rfl w hw | exact Sees.at 17 rfl w hw | exact Sees.at 18 rfl w hw | exact Sees.at 19 rfl w hw | exact Sees.own (List.mem_append.2 (.inr (.head _))) w hw) (by first | exact Sees.root (by assumption) w hw | exact Sees.at 0 rfl w hw | exact Sees.at 1 rfl w hw | exact Sees.at 2 rfl w hw | exact Sees.at 3 rfl w hw | exact Sees.at 4 rfl w hw | exact Sees.at 5 rfl w hw | exact Sees.at 6 rfl w hw | exact Sees.at 7 rfl w hw | exact Sees.at 8 rfl w hw | exact Sees.at 9 rfl w hw | exact Sees.at 10 rfl w hw | exact Sees.at 11 rfl w hw | exact Sees.at 12 rfl w hw | exact Sees.at 13 rfl w hw | exact Sees.at 14 rfl w hw | exact Sees.at 15 rfl w hw | exact Sees.at 16 rfl w hw | exact Sees.at 17 rfl w hw | exact Sees.at 18 rfl w hw | exact Sees.at 19 rfl w hw | exact Sees.own (List.mem_append.2 (.inr (.head _))) w hw) (by first | assumption | exact can_up _ | exact can_fop _ _ _ _ | exact can_of _ (by assumption)) (by first | assumption | exact can_up _ | exact can_fop _ _ _ _ | exact can_of _ (by assumption)) (by omega))) ?_
                    refine VL.r (.inl rfl) rfl (by decide) (yr_not rfl rfl) ?_
                    refine VL.r (.inl rfl) rfl (by decide) (yr_move rfl rfl) ?_
                    refine VX.split 80 _ rfl (fun h10 => ?_) (fun h10 => ?_)
                    · skip
                      replace h10 := bnot_t h10
                      first | (exfalso; omega) | (simp [bcmp] at h10; done)
                    · skip
                      replace h10 := bnot_f h10
                      refine VL.r (.inr ⟨_, _, _, rfl, rfl, rfl⟩) rfl (by decide) (yr_move rfl rfl) ?_
                      refine VL.r (.inr ⟨_, _, _, rfl, rfl, rfl⟩) rfl (by decide) (yr_move rfl rfl) ?_
                      refine VL.r (.inr ⟨_, _, _, rfl, rfl, rfl⟩) rfl (by decide) (yr_bcmp rfl Try.underlying4 rfl rfl (.inr rfl)) ?_
                      refine VL.r (.inl rfl) rfl (by decide) (yr_pick_f rfl rfl rfl) ?_
                      refine VL.nil ?_
                      refine VE.then_wp ?_
                      refine V.cond rfl (fun h11 => ?_) (fun h11 => ?_)
                      · skip
                        first | (exfalso; omega) | (simp [bcmp] at h11; done)
                      · skip
                        refine V.skip ?_
                        refine VE.then_wp ?_
                        refine V.seq ?_
                        refine V.region ?_
                        refine VL.r (.inl rfl) rfl (by decide) (yr_assign (u := .int .i64 1) rfl rfl) ?_
                        refine VL.nil ?_
                        refine VE.then_wp ?_
                        refine V.seq ?_
                        refine V.region ?_
                        refine VL.r (.inl rfl) rfl (by decide) (yr_move rfl rfl) ?_
                        refine VL.r (.inl rfl) rfl (by decide) (yr_move rfl rfl) ?_
                        refine VL.q (.inl rfl) rfl (by decide) (yq_callf rfl known14_Chol (.cons rfl (.cons rfl .nil)) (fun w hw => c_heldF (by first | exact Sees.root (by assumption) w hw | exact Sees.at 0 rfl w hw | exact Sees.at 1 rfl w hw | exact Sees.at 2 rfl w hw | exact Sees.at 3 rfl w hw | exact Sees.at 4 rfl w hw | exact Sees.at 5 rfl w hw | exact Sees.at 6 rfl w hw | exact Sees.at 7 rfl w hw | exact Sees.at 8 rfl w hw | exact Sees.at 9 rfl w hw | exact Sees.at 10 rfl w hw | exact Sees.at 11 rfl w hw | exact Sees.at 12 rfl w hw | exact Sees.at 13 rfl w hw | exact Sees.at 14 rfl w hw | exact Sees.at 15 rfl w hw | exact Sees.at 16 rfl w hw | exact Sees.at 17 rfl w hw | exact Sees.at 18 rfl w hw | exact Sees.at 19 rfl w hw | exact Sees.own (List.mem_append.2 (.inr (.head _))) w hw) (by omega) (by omega) (by omega))) ?_
                        refine VL.r (.inl rfl) rfl (by decide) (yr_assign rfl rfl) ?_
                        refine VL.nil ?_
                        refine VE.then_wp ?_
                        refine V.seq ?_
                        refine V.seq ?_
                        refine V.region ?_
                        refine VL.r (.inl rfl) rfl (by decide) (yr_move rfl rfl) ?_
                        refine VL.r (.inl rfl) rfl (by decide) (yr_icmp rfl (.inr (.inr (.inl rfl))) rfl rfl) ?_
                        refine VL.nil ?_
                        refine VE.then_wp ?_
                        refine V.cond rfl (fun h12 => ?_) (fun h12 => ?_)
                        · skip
                          replace h12 := ic_lss h12
                          first | (exfalso; omega) | (simp [bcmp] at h12; done)
                        · skip
                          replace h12 := ic_lss' h12
                          refine V.skip ?_
                          refine VE.then_wp ?_
                          refine V.seq ?_
                          refine V.seq ?_
                          refine V.region ?_
                          refine VL.r (.inl rfl) rfl (by decide) (yr_move rfl rfl) ?_
                          refine VL.r (.inl rfl) rfl (by decide) (yr_move rfl rfl) ?_
                          refine VL.r (.inl rfl) rfl (by decide) (yr_icmp rfl (.inr (.inl rfl)) rfl rfl) ?_
                          refine VL.nil ?_
                          refine VE.then_wp ?_
                          refine V.cond rfl (fun h13 => ?_) (fun h13 => ?_)
                          · skip
                            replace h13 := ic_neq h13
                            first | (exfalso; omega) | (simp [bcmp] at h13; done)
                          · skip
                            replace h13 := ic_neq' h13
                            refine V.skip ?_
                            refine VE.then_wp ?_
                            refine V.seq ?_
                            refine V.region ?_
                            refine VL.r (.inl rfl) rfl (by decide) (yr_assign (u := .bool true) rfl rfl) ?_
                            refine VL.nil ?_
                            refine VE.then_wp ?_
                            refine V.ret ?_
                            refine ret1 rfl rfl (fun w1 hw => ?_)
                            exact ⟨rfl, hw.below⟩

end Go.Proofs.Ytbdbjeaaoaohlaa
