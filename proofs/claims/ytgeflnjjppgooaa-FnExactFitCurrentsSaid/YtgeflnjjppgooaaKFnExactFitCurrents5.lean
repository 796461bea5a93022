/- Own texts of this claim, merged: QWSolve, Design, QNest, QDesign, QWRows. -/
import Derived.KernelRfl
import Derived.Test.YtgeflnjjppgooaaKFnExactFitCurrents4
namespace Go.Proofs.Ytgeflnjjppgooaa.Q
open Go.RowKit
set_option linter.unusedVariables false
set_option linter.unusedSimpArgs false
set_option maxRecDepth 20000
set_option maxHeartbeats 800000
attribute [local irreducible] wqList Wq
theorem elt26_Solve : Elt Try.prog 26 [Value.float .f32 0] 4 := Elt.mk' (by kernel_rfl) (by decide)
theorem sz26_Solve : (Try.prog.info? 26).map (·.size) = some 1 := by kernel_rfl
theorem fb26_Solve : flatB Try.prog 26 = true := by kernel_rfl
theorem mixed_Solve : Try.prog.follows .mixedOrders = true := by kernel_rfl
theorem known87_Solve : Known Try.prog 87 := Known.mk' Try.func87 (by kernel_rfl)
theorem known88_Solve : Known Try.prog 88 := Known.mk' Try.func88 (by kernel_rfl)
theorem known58_Solve : Known Try.prog 58 := Known.mk' Try.func58 (by kernel_rfl)
theorem known60_Solve : Known Try.prog 60 := Known.mk' Try.func60 (by kernel_rfl)
theorem c_l07Side [PhC] {w : World} {m n : Nat} (hn : n = side m) (hm : m ≤ 1050000) : Pure Try.prog 87 [.int .i64 (m : Int)] w (.int .i64 (n : Int)) := by
  refine Pure.enter Try.func87 rfl Try.ntmps87 (Nat.le_of_ble_eq_true rfl) ?_
  refine V.seq ?_
  refine V.region ?_
  refine VL.r (.inl rfl) rfl (by decide) (yr_assign (u := .int .i64 0) rfl rfl) ?_
  refine VL.nil ?_
  refine VE.then_wp ?_
  refine V.seq ?_
  refine V.seq ?_
  refine V.region ?_
  refine VL.r (.inl rfl) rfl (by decide) (yr_assign (u := .int .i64 1) rfl rfl) ?_
  refine VL.nil ?_
  refine VE.then_wp ?_
  refine V.block ?_
  refine V.loops (G := Nat) [(0, _)] (fun (k : Nat) => 1 ≤ k ∧ k ≤ 9 ∧ ∀ j, 1 ≤ j → j < k → j * j ≠ m) (fun (k : Nat) => [(3, .int .i64 (k : Int))]) (fun (k : Nat) => 9 - k) 1 (.cons rfl .nil) (.cons rfl .nil) ?_ ?_
  · exact (by exact ⟨by omega, by omega, fun j h1 h2 => by omega⟩)
  rintro k ⟨h1k, hk, hI⟩
  show V _ _ _ _ ([(3, .int .i64 (k : Int))] ++ [(0, _)]) _ _
  have hkk : k * k ≤ 81 := Nat.mul_le_mul hk hk
  refine V.seq ?_
  refine V.seq ?_
  refine V.region ?_
  refine VL.r (.inl rfl) rfl (by decide) (yr_move rfl rfl) ?_
  refine VL.r (.inl rfl) rfl (by decide) (yr_icmp rfl (.inr (.inr (.inr (.inl rfl)))) rfl rfl) ?_
  refine VL.nil ?_
  refine VE.then_wp ?_
  refine V.cond rfl (fun h1 => ?_) (fun h1 => ?_)
  · skip
    replace h1 := ic_leq h1
    refine V.skip ?_
    refine VE.then_wp ?_
    refine V.seq ?_
    refine V.block ?_
    refine V.seq ?_
    refine V.region ?_
    refine VL.r (.inl rfl) rfl (by decide) (yr_move rfl rfl) ?_
    refine VL.r (.inl rfl) rfl (by decide) (yr_move rfl rfl) ?_
    refine VL.r (.inl rfl) rfl (by decide) (yr_mulN k k rfl rfl rfl (by omega) (by omega) (Nat.le_trans (mul_small (by omega) (by omega)) (by decide))) ?_
    refine VL.r (.inl rfl) rfl (by decide) (yr_move rfl rfl) ?_
    refine VL.r (.inl rfl) rfl (by decide) (yr_icmp rfl (.inl rfl) rfl rfl) ?_
    refine VL.nil ?_
    refine VE.then_wp ?_
    refine V.cond rfl (fun h2 => ?_) (fun h2 => ?_)
    · skip
      replace h2 := ic_eql h2
      refine V.seq ?_
      refine V.region ?_
      refine VL.r (.inl rfl) rfl (by decide) (yr_move rfl rfl) ?_
      refine VL.r (.inl rfl) rfl (by decide) (yr_assign rfl rfl) ?_
      refine VL.nil ?_
      refine VE.then_wp ?_
      refine V.ret ?_
      refine VE.block_ret ?_
      refine VE.then_ret ?_
      refine VE.then_ret ?_
      refine VE.block_ret ?_
      refine VE.then_ret ?_
      refine ret1 rfl rfl (fun w1 hw => ?_)
      refine ⟨?_, hw.below⟩
      rw [hn, side_of h1k (by omega) (by omega : k * k = m)]
    · skip
      replace h2 := ic_eql' h2
      refine V.skip ?_
      refine VE.block_normal ?_
      refine VE.then_wp ?_
      refine V.region ?_
      refine VL.r (.inl rfl) rfl (by decide) (yr_move rfl rfl) ?_
      refine VL.r (.inl rfl) rfl (by decide) (yr_int rfl rfl rfl (.inl ⟨rfl, wrap_in (by omega)⟩)) ?_
      refine VL.r (.inl rfl) rfl (by decide) (yr_assign rfl rfl) ?_
      refine VL.nil ?_
      refine VE.round (k + 1) ?_ ?_ ?_ ?_ ?_
      · exact (.cons rfl .nil)
      · exact (.cons rfl .nil)
      · exact (fun w hw => hw)
      · exact ⟨by omega, by omega, fun j g1 g2 => by rcases Nat.lt_or_ge j k with g | g; exact hI j g1 g; obtain rfl : j = k := (by omega); omega⟩
      · (try dsimp only); omega
  · skip
    replace h1 := ic_leq' h1
    refine V.exit ?_
    refine VE.then_exit ?_
    refine VE.then_exit ?_
    refine VE.block_here ?_
    refine VE.then_wp ?_
    refine V.seq ?_
    refine V.region ?_
    refine VL.r (.inl rfl) rfl (by decide) (yr_assign (u := .int .i64 0) rfl rfl) ?_
    refine VL.nil ?_
    refine VE.then_wp ?_
    refine V.ret ?_
    refine ret1 rfl rfl (fun w1 hw => ?_)
    refine ⟨?_, hw.below⟩
    have : k = 9 := by omega
    subst this
    rw [hn, side_none hI]
    rfl
theorem c_sideOf [PhC] {w : World} {a : Option Addr} {c m n : Nat} (hn : n = side m) (hm : m ≤ 1050000) : Pure Try.prog 58 [.slice a m c] w (.tuple #[.int .i64 (n : Int), .bool (decide (n ≠ 0))]) := by
  refine Pure.enter Try.func58 rfl Try.ntmps58 (Nat.le_of_ble_eq_true rfl) ?_
  refine V.seq ?_
  refine V.region ?_
  refine VL.r (.inl rfl) rfl (by decide) (yr_assign (u := .int .i64 0) rfl rfl) ?_
  refine VL.r (.inl rfl) rfl (by decide) (yr_assign (u := .bool false) rfl rfl) ?_
  refine VL.nil ?_
  refine VE.then_wp ?_
  refine V.seq ?_
  refine V.seq ?_
  refine V.region ?_
  refine VL.r (.inl rfl) rfl (by decide) (yr_assign (u := .int .i64 1) rfl rfl) ?_
  refine VL.nil ?_
  refine VE.then_wp ?_
  refine V.block ?_
  refine V.loops (G := Nat) [(0, _)] (fun (k : Nat) => 1 ≤ k ∧ k ≤ 9 ∧ ∀ j, 1 ≤ j → j < k → j * j ≠ m) (fun (k : Nat) => [(4, .int .i64 (k : Int))]) (fun (k : Nat) => 9 - k) 1 (.cons rfl .nil) (.cons rfl .nil) ?_ ?_
  · exact (by exact ⟨by omega, by omega, fun j h1 h2 => by omega⟩)
  rintro k ⟨h1k, hk, hI⟩
  show V _ _ _ _ ([(4, .int .i64 (k : Int))] ++ [(0, _)]) _ _
  have hkk : k * k ≤ 81 := Nat.mul_le_mul hk hk
  refine V.seq ?_
  refine V.seq ?_
  refine V.region ?_
  refine VL.r (.inl rfl) rfl (by decide) (yr_move rfl rfl) ?_
  refine VL.r (.inl rfl) rfl (by decide) (yr_icmp rfl (.inr (.inr (.inr (.inl rfl)))) rfl rfl) ?_
  refine VL.nil ?_
  refine VE.then_wp ?_
  refine V.cond rfl (fun h1 => ?_) (fun h1 => ?_)
  · skip
    replace h1 := ic_leq h1
    refine V.skip ?_
    refine VE.then_wp ?_
    refine V.seq ?_
    refine V.block ?_
    refine V.seq ?_
    refine V.region ?_
    refine VL.r (.inl rfl) rfl (by decide) (yr_move rfl rfl) ?_
    refine VL.r (.inl rfl) rfl (by decide) (yr_move rfl rfl) ?_
    refine VL.r (.inl rfl) rfl (by decide) (yr_mulN k k rfl rfl rfl (by omega) (by omega) (Nat.le_trans (mul_small (by omega) (by omega)) (by decide))) ?_
    refine VL.r (.inl rfl) rfl (by decide) (yr_move rfl rfl) ?_
    refine VL.r (.inl rfl) rfl (by decide) (yr_len rfl Try.underlying23 rfl) ?_
    refine VL.r (.inl rfl) rfl (by decide) (yr_icmp rfl (.inl rfl) rfl rfl) ?_
    refine VL.nil ?_
    refine VE.then_wp ?_
    refine V.cond rfl (fun h2 => ?_) (fun h2 => ?_)
    · skip
      replace h2 := ic_eql h2
      refine V.seq ?_
      refine V.region ?_
      refine VL.r (.inl rfl) rfl (by decide) (yr_move rfl rfl) ?_
      refine VL.r (.inl rfl) rfl (by decide) (yr_assign rfl rfl) ?_
      refine VL.r (.inl rfl) rfl (by decide) (yr_assign (u := .bool true) rfl rfl) ?_
      refine VL.nil ?_
      refine VE.then_wp ?_
      refine V.ret ?_
      refine VE.block_ret ?_
      refine VE.then_ret ?_
      refine VE.then_ret ?_
      refine VE.block_ret ?_
      refine VE.then_ret ?_
      refine ret2 rfl rfl rfl (by nofun) (by nofun) (fun w1 hw => ?_)
      refine ⟨?_, hw.below⟩
      have hs := side_of h1k (by omega) (by omega : k * k = m)
      rw [hn, hs, decide_eq_true (by omega)]
    · skip
      replace h2 := ic_eql' h2
      refine V.skip ?_
      refine VE.block_normal ?_
      refine VE.then_wp ?_
      refine V.region ?_
      refine VL.r (.inl rfl) rfl (by decide) (yr_move rfl rfl) ?_
      refine VL.r (.inl rfl) rfl (by decide) (yr_int rfl rfl rfl (.inl ⟨rfl, wrap_in (by omega)⟩)) ?_
      refine VL.r (.inl rfl) rfl (by decide) (yr_assign rfl rfl) ?_
      refine VL.nil ?_
      refine VE.round (k + 1) ?_ ?_ ?_ ?_ ?_
      · exact (.cons rfl .nil)
      · exact (.cons rfl .nil)
      · exact (fun w hw => hw)
      · exact ⟨by omega, by omega, fun j g1 g2 => by rcases Nat.lt_or_ge j k with g | g; exact hI j g1 g; obtain rfl : j = k := (by omega); omega⟩
      · (try dsimp only); omega
  · skip
    replace h1 := ic_leq' h1
    refine V.exit ?_
    refine VE.then_exit ?_
    refine VE.then_exit ?_
    refine VE.block_here ?_
    refine VE.then_wp ?_
    refine V.seq ?_
    refine V.region ?_
    refine VL.r (.inl rfl) rfl (by decide) (yr_assign (u := .int .i64 0) rfl rfl) ?_
    refine VL.r (.inl rfl) rfl (by decide) (yr_assign (u := .bool false) rfl rfl) ?_
    refine VL.nil ?_
    refine VE.then_wp ?_
    refine V.ret ?_
    refine ret2 rfl rfl rfl (by nofun) (by nofun) (fun w1 hw => ?_)
    refine ⟨?_, hw.below⟩
    have : k = 9 := by omega
    subst this
    rw [hn, side_none hI]
    rfl
theorem c_cloneF [PhC] {w : World} {a : Option Addr} {c : Nat} {xs : List Nat} (hA : Cl w a (fl xs)) (hn : xs.length ≤ 1050000) : New Try.prog 60 [.slice a xs.length c] w (fun p : Option Addr × Nat => .slice p.1 xs.length p.2) (fun p => [⟨p.1, fl xs, p.2 * 1, 26⟩]) := by
  refine New.enter Try.func60 rfl Try.ntmps60 (Nat.le_of_ble_eq_true rfl) ?_
  refine V.seq ?_
  refine V.region ?_
  refine VL.r (.inl rfl) rfl (by decide) (yr_assign (u := .slice none 0 0) rfl rfl) ?_
  refine VL.nil ?_
  refine VE.then_wp ?_
  refine V.seq ?_
  refine V.seq ?_
  refine V.region ?_
  refine VL.r (.inl rfl) rfl (by decide) (yr_move rfl rfl) ?_
  refine VL.r (.inl rfl) rfl (by decide) (yr_nileq rfl Try.underlying23 rfl rfl) ?_
  refine VL.nil ?_
  refine VE.then_wp ?_
  refine V.cond rfl (fun h1 => ?_) (fun h1 => ?_)
  · skip
    refine V.seq ?_
    refine V.region ?_
    refine VL.r (.inl rfl) rfl (by decide) (yr_assign (u := .slice none 0 0) rfl rfl) ?_
    refine VL.nil ?_
    refine VE.then_wp ?_
    refine V.ret ?_
    refine VE.then_ret ?_
    refine ret1 rfl rfl (fun w1 hw => ?_)
    have hx : xs = [] := by
      rcases hA with h | ⟨p, h, _⟩
      · exact fl_inj h
      · rw [h] at h1; cases h1
    subst hx
    exact ⟨(none, 0), rfl, hw.below, by simp [fl, Ent.at], List.pairwise_singleton _ _⟩
  · skip
    refine V.skip ?_
    refine VE.then_wp ?_
    refine V.seq ?_
    refine V.region ?_
    refine VL.new1 (.inl rfl) rfl (by decide) (yn_lit rfl Try.underlying23 elt26_Solve rfl (by decide) .nil (by first | (simp; done) | (simp [cn, cn1, cn0]; done)) rfl rfl rfl) ?_
    intro b5
    refine VL.r (.inl rfl) rfl (by decide) (yr_move rfl rfl) ?_
    refine VL.c (.inl rfl) rfl (by decide) (yc_appendz 1 rfl rfl Try.underlying23 elt26_Solve rfl rfl zz6 zz0 rfl (by simp) (by rw [fl_length]; omega) (by first | rfl | exact fl_scal _) (by first | rfl | exact fl_scal _) (by omega) (by omega)) ?_
    rintro ⟨a7, c7⟩
    refine VL.r (.inl rfl) rfl (by decide) (yr_assign rfl rfl) ?_
    refine VL.nil ?_
    refine VE.then_wp ?_
    refine V.ret ?_
    refine ret1 rfl rfl (fun w1 hw => ?_)
    exact ⟨(a7, c7), by simp, hw.out1⟩
theorem c_l07Solve [PhC] {w : World} {a b : Option Addr} {c d n : Nat} {l bs : List Nat} (hA : Cl w a (fl l)) (hB : Cl w b (fl bs)) (hl : l.length = n * n) (hb : bs.length = n) (hn8 : n ≤ 8) : New Try.prog 88 [.slice a l.length c, .slice b bs.length d] w (fun p : Nat => .slice (some ⟨p, 0, none⟩) n n) (fun p => [⟨some ⟨p, 0, none⟩, fl (solve l bs n), n * 1, 26⟩]) := by
  have hnn : n * n ≤ 64 := Nat.mul_le_mul hn8 hn8
  rw [hb]
  have hix : ∀ {j k : Nat}, j < n → k < n → j * n + k < n * n := idx_lt
  refine New.enter Try.func88 rfl Try.ntmps88 (Nat.le_of_ble_eq_true rfl) ?_
  refine V.seq ?_
  refine V.region ?_
  refine VL.r (.inl rfl) rfl (by decide) (yr_assign (u := .slice none 0 0) rfl rfl) ?_
  refine VL.nil ?_
  refine VE.then_wp ?_
  refine V.seq ?_
  refine V.region ?_
  refine VL.r (.inl rfl) rfl (by decide) (yr_move rfl rfl) ?_
  refine VL.r (.inl rfl) rfl (by decide) (yr_len rfl Try.underlying23 rfl) ?_
  refine VL.r (.inl rfl) rfl (by decide) (yr_assign rfl rfl) ?_
  refine VL.nil ?_
  refine VE.then_wp ?_
  refine V.seq ?_
  refine V.region ?_
  refine VL.r (.inl rfl) rfl (by decide) (yr_move rfl rfl) ?_
  refine VL.new1 (.inl rfl) rfl (by decide) (yn_makeSlicez 1 rfl rfl Try.underlying23 elt26_Solve rfl rfl rfl (by omega) (by omega)) ?_
  intro b17
  refine VL.r (.inl rfl) rfl (by decide) (yr_assign rfl rfl) ?_
  refine VL.nil ?_
  refine VE.then_wp ?_
  refine V.seq ?_
  refine V.seq ?_
  refine V.region ?_
  refine VL.r (.inl rfl) rfl (by decide) (yr_assign (u := .int .i64 0) rfl rfl) ?_
  refine VL.nil ?_
  refine VE.then_wp ?_
  refine V.block ?_
  refine V.loopc (G := Nat × (List Nat)) [(0, _), (1, _), (5, _), (6, _)] (fun ⟨j, y⟩ => j ≤ n ∧ y.length = n ∧ ∀ t, t < j → y.getD t 0 = fwdF l n bs j t) (fun ⟨j, y⟩ => [⟨some ⟨b17, 0, none⟩, fl y, n * 1, 26⟩]) (fun ⟨j, y⟩ => [(7, .int .i64 (j : Int))]) (fun ⟨j, y⟩ => n - j) (0, List.replicate n 0) (.cons rfl (.cons rfl (.cons rfl (.cons rfl .nil)))) (.cons rfl .nil) ?_ ?_ ?_
  · exact (fun w hw => by rw [fl_zeros] at hw; exact hw)
  · exact (by simp)
  rintro ⟨j, y⟩ ⟨hj, hyl, hy⟩
  show V _ _ _ [⟨some ⟨b17, 0, none⟩, fl y, n * 1, 26⟩] ([(7, .int .i64 (j : Int))] ++ [(0, _), (1, _), (5, _), (6, _)]) _ _
  refine V.seq ?_
  refine V.seq ?_
  refine V.region ?_
  refine VL.r (.inl rfl) rfl (by decide) (yr_move rfl rfl) ?_
  refine VL.r (.inl rfl) rfl (by decide) (yr_move rfl rfl) ?_
  refine VL.r (.inl rfl) rfl (by decide) (yr_icmp rfl (.inr (.inr (.inl rfl))) rfl rfl) ?_
  refine VL.nil ?_
  refine VE.then_wp ?_
  refine V.cond rfl (fun h1 => ?_) (fun h1 => ?_)
  · skip
    replace h1 := ic_lss h1
    refine V.skip ?_
    refine VE.then_wp ?_
    refine V.seq ?_
    refine V.block ?_
    refine V.seq ?_
    refine V.region ?_
    refine VL.r (.inl rfl) rfl (by decide) (yr_move rfl rfl) ?_
    refine VL.r (.inl rfl) rfl (by decide) (yr_move rfl rfl) ?_
    refine VL.q (.inl rfl) rfl (by decide) (yq_idx (k := j) rfl Try.underlying23 sz26_Solve rfl rfl zz0 zz2 zz5 (by omega)) ?_
    refine VL.q (.inl rfl) rfl (by decide) (yq_loadF rfl fb26_Solve rfl zz0 (by omega)) ?_
    refine VL.r (.inl rfl) rfl (by decide) (yr_assign rfl rfl) ?_
    refine VL.nil ?_
    refine VE.then_wp ?_
    refine V.seq ?_
    refine V.seq ?_
    refine V.region ?_
    refine VL.r (.inl rfl) rfl (by decide) (yr_assign (u := .int .i64 0) rfl rfl) ?_
    refine VL.nil ?_
    refine VE.then_wp ?_
    refine V.block ?_
    refine V.loops (G := Nat) [(0, _), (1, _), (5, _), (6, _), (7, _)] (fun (k : Nat) => k ≤ j) (fun (k : Nat) => [(8, .float .f32 (fwdS l n j (fwdF l n bs j) (bs.getD j 0) k)), (9, .int .i64 (k : Int))]) (fun (k : Nat) => j - k) 0 (.cons rfl (.cons rfl (.cons rfl (.cons rfl (.cons rfl .nil))))) (.cons rfl (.cons rfl .nil)) ?_ ?_
    · exact (by omega)
    rintro k hk
    show V _ _ _ _ ([(8, .float .f32 (fwdS l n j (fwdF l n bs j) (bs.getD j 0) k)), (9, .int .i64 (k : Int))] ++ [(0, _), (1, _), (5, _), (6, _), (7, _)]) _ _
    have hjj : j < n → j * n + j < n * n := fun h => hix h h
    have hjk : j < n → k < j → j * n + k < n * n := fun h g => hix h (by omega)
    refine V.seq ?_
    refine V.seq ?_
    refine V.region ?_
    refine VL.r (.inl rfl) rfl (by decide) (yr_move rfl rfl) ?_
    refine VL.r (.inl rfl) rfl (by decide) (yr_move rfl rfl) ?_
    refine VL.r (.inl rfl) rfl (by decide) (yr_icmp rfl (.inr (.inr (.inl rfl))) rfl rfl) ?_
    refine VL.nil ?_
    refine VE.then_wp ?_
    refine V.cond rfl (fun h2 => ?_) (fun h2 => ?_)
    · skip
      replace h2 := ic_lss h2
      refine V.skip ?_
      refine VE.then_wp ?_
      refine V.seq ?_
      refine V.block ?_
      refine V.draw [(0, 0), (1, 0), (2, 0), (3, 0), (4, 0), (5, 0), (6, 0), (7, 0), (8, 0), (9, 0), (10, 0), (11, 0), (12, 0), (13, 0), (14, 0), (15, 0)] mixed_Solve (by kernel_rfl) (by intro j o hj; simp at hj) ?_
      refine SW.r rfl (.inl rfl) rfl (by decide) (yr_move rfl rfl) ?_
      refine SW.r rfl (.inl rfl) rfl (by decide) (yr_move rfl rfl) ?_
      refine SW.r rfl (.inl rfl) rfl (by decide) (yr_move rfl rfl) ?_
      refine SW.r rfl (.inl rfl) rfl (by decide) (yr_move rfl rfl) ?_
      refine SW.r rfl (.inl rfl) rfl (by decide) (yr_mulN j n rfl rfl rfl (by omega) (by omega) (Nat.le_trans (mul_small (by omega) (by omega)) (by decide))) ?_
      refine SW.r rfl (.inl rfl) rfl (by decide) (yr_move rfl rfl) ?_
      refine SW.r rfl (.inl rfl) rfl (by decide) (yr_int rfl rfl rfl (.inl ⟨rfl, wrap_in (by omega)⟩)) ?_
      refine SW.q rfl (.inl rfl) rfl (by decide) (yq_idx (k := ((j * n) + k)) rfl Try.underlying23 sz26_Solve rfl rfl zz0 zz2 zz5 (by omega)) ?_
      refine SW.q rfl (.inl rfl) rfl (by decide) (yq_loadF rfl fb26_Solve rfl zz0 (by omega)) ?_
      refine SW.r rfl (.inl rfl) rfl (by decide) (yr_move rfl rfl) ?_
      refine SW.r rfl (.inl rfl) rfl (by decide) (yr_move rfl rfl) ?_
      refine SW.q rfl (.inl rfl) rfl (by decide) (yq_idx (k := k) rfl Try.underlying23 sz26_Solve rfl rfl zz0 zz2 zz5 (by omega)) ?_
      refine SW.q rfl (.inl rfl) rfl (by decide) (yq_loadF rfl fb26_Solve rfl zz0 (by omega)) ?_
      refine SW.r rfl (.inl rfl) rfl (by decide) (yr_float rfl (.inr (.inr (.inl rfl))) rfl rfl) ?_
      refine SW.r rfl (.inl rfl) rfl (by decide) (yr_float rfl (.inr (.inl rfl)) rfl rfl) ?_
      refine SW.r rfl (.inl rfl) rfl (by decide) (yr_assign rfl rfl) ?_
      refine SW.done ?_
      refine VE.block_normal ?_
      refine VE.then_wp ?_
      refine V.region ?_
      refine VL.r (.inl rfl) rfl (by decide) (yr_move rfl rfl) ?_
      refine VL.r (.inl rfl) rfl (by decide) (yr_int rfl rfl rfl (.inl ⟨rfl, wrap_in (by omega)⟩)) ?_
      refine VL.r (.inl rfl) rfl (by decide) (yr_assign rfl rfl) ?_
      refine VL.nil ?_
      refine VE.round (k + 1) ?_ ?_ ?_ ?_ ?_
      · exact (.cons (congrArg (fun x => some (Value.float .f32 x)) (by rw [fwdS, hy k (by omega)])) (.cons rfl .nil))
      · exact (.cons rfl (.cons rfl (.cons rfl (.cons rfl (.cons rfl .nil)))))
      · exact (fun w hw => hw)
      · omega
      · (try dsimp only); omega
    · skip
      replace h2 := ic_lss' h2
      refine V.exit ?_
      refine VE.then_exit ?_
      refine VE.then_exit ?_
      refine VE.block_here ?_
      refine VE.then_wp ?_
      refine V.region ?_
      refine VL.r (.inl rfl) rfl (by decide) (yr_move rfl rfl) ?_
      refine VL.r (.inl rfl) rfl (by decide) (yr_move rfl rfl) ?_
      refine VL.r (.inl rfl) rfl (by decide) (yr_move rfl rfl) ?_
      refine VL.r (.inl rfl) rfl (by decide) (yr_move rfl rfl) ?_
      refine VL.r (.inl rfl) rfl (by decide) (yr_move rfl rfl) ?_
      refine VL.r (.inl rfl) rfl (by decide) (yr_move rfl rfl) ?_
      refine VL.r (.inl rfl) rfl (by decide) (yr_mulN j n rfl rfl rfl (by omega) (by omega) (Nat.le_trans (mul_small (by omega) (by omega)) (by decide))) ?_
      refine VL.r (.inl rfl) rfl (by decide) (yr_move rfl rfl) ?_
      refine VL.r (.inl rfl) rfl (by decide) (yr_int rfl rfl rfl (.inl ⟨rfl, wrap_in (by omega)⟩)) ?_
      refine VL.q (.inl rfl) rfl (by decide) (yq_idx (k := ((j * n) + j)) rfl Try.underlying23 sz26_Solve rfl rfl zz0 zz2 zz5 (by omega)) ?_
      refine VL.q (.inl rfl) rfl (by decide) (yq_loadF rfl fb26_Solve rfl zz0 (by omega)) ?_
      refine VL.r (.inl rfl) rfl (by decide) (yr_float rfl (.inr (.inr (.inr rfl))) rfl rfl) ?_
      refine VL.q (.inl rfl) rfl (by decide) (yq_idx (k := j) rfl Try.underlying23 sz26_Solve rfl rfl zz0 zz2 zz5 (by omega)) ?_
      refine VL.s (.inl rfl) rfl (yc_store rfl sz26_Solve rfl rfl zz6 (.inl ⟨rfl, rfl⟩) rfl (by rw [fl_length]; omega) (by decide) (fl_set _ _ _)) ?_
      rintro ⟨⟩
      refine VL.nil ?_
      refine VE.block_normal ?_
      refine VE.then_wp ?_
      refine V.region ?_
      refine VL.r (.inl rfl) rfl (by decide) (yr_move rfl rfl) ?_
      refine VL.r (.inl rfl) rfl (by decide) (yr_int rfl rfl rfl (.inl ⟨rfl, wrap_in (by omega)⟩)) ?_
      refine VL.r (.inl rfl) rfl (by decide) (yr_assign rfl rfl) ?_
      refine VL.nil ?_
      refine VE.round (j + 1, y.set j (fop .quo .f32 (fwdS l n j (fwdF l n bs j) (bs.getD j 0) k) (l.getD (j * n + j) 0))) ?_ ?_ ?_ ?_ ?_
      · exact (.cons rfl .nil)
      · exact (.cons rfl (.cons rfl (.cons rfl (.cons rfl .nil))))
      · exact (fun w hw => hw)
      · obtain rfl : k = j := by omega
        refine ⟨by omega, by simp [hyl], fun t ht => ?_⟩
        rw [gset (by omega), fwdF]
        split
        · rfl
        · exact hy t (by omega)
      · (try dsimp only); omega
  · skip
    replace h1 := ic_lss' h1
    refine V.exit ?_
    refine VE.then_exit ?_
    refine VE.then_exit ?_
    refine VE.block_here ?_
    refine VE.then_wp ?_
    refine V.seq ?_
    refine V.region ?_
    refine VL.r (.inl rfl) rfl (by decide) (yr_move rfl rfl) ?_
    refine VL.new1 (.inl rfl) rfl (by decide) (yn_makeSlicez 1 rfl rfl Try.underlying23 elt26_Solve rfl rfl rfl (by omega) (by omega)) ?_
    intro b61
    refine VL.r (.inl rfl) rfl (by decide) (yr_assign rfl rfl) ?_
    refine VL.nil ?_
    refine VE.then_wp ?_
    refine V.seq ?_
    refine V.seq ?_
    refine V.region ?_
    refine VL.r (.inl rfl) rfl (by decide) (yr_move rfl rfl) ?_
    refine VL.r (.inl rfl) rfl (by decide) (yr_int rfl rfl rfl (.inr (.inl ⟨rfl, wrap_in (by omega)⟩))) ?_
    refine VL.r (.inl rfl) rfl (by decide) (yr_assign rfl rfl) ?_
    refine VL.nil ?_
    refine VE.then_wp ?_
    refine V.block ?_
    refine V.loopc (G := Nat × (List Nat)) [(0, _), (5, _), (6, _), (10, _)] (fun ⟨j1, x⟩ => j1 ≤ n ∧ x.length = n ∧ ∀ t, j1 ≤ t → t < n → x.getD t 0 = bwdF l n (fwdF l n bs n) (n - j1) t) (fun ⟨j1, x⟩ => [⟨some ⟨b61, 0, none⟩, fl x, n * 1, 26⟩, ⟨some ⟨b17, 0, none⟩, fl y, n * 1, 26⟩]) (fun ⟨j1, x⟩ => [(11, .int .i64 ((j1 : Int) - 1))]) (fun ⟨j1, x⟩ => j1) (n, List.replicate n 0) (.cons rfl (.cons rfl (.cons rfl (.cons rfl .nil)))) (.cons rfl .nil) ?_ ?_ ?_
    · exact (fun w hw => by rw [fl_zeros] at hw; exact hw)
    · exact (by exact ⟨by omega, by simp, fun t h1 h2 => by omega⟩)
    rintro ⟨j1, x⟩ ⟨hj1, hxl, hx⟩
    show V _ _ _ [⟨some ⟨b61, 0, none⟩, fl x, n * 1, 26⟩, ⟨some ⟨b17, 0, none⟩, fl y, n * 1, 26⟩] ([(11, .int .i64 ((j1 : Int) - 1))] ++ [(0, _), (5, _), (6, _), (10, _)]) _ _
    obtain rfl : n = j := by omega
    refine V.seq ?_
    refine V.seq ?_
    refine V.region ?_
    refine VL.r (.inl rfl) rfl (by decide) (yr_move rfl rfl) ?_
    refine VL.r (.inl rfl) rfl (by decide) (yr_icmp rfl (.inr (.inr (.inr (.inr (.inr rfl))))) rfl rfl) ?_
    refine VL.nil ?_
    refine VE.then_wp ?_
    refine V.cond rfl (fun h3 => ?_) (fun h3 => ?_)
    · skip
      replace h3 := ic_geq h3
      refine V.skip ?_
      refine VE.then_wp ?_
      refine V.seq ?_
      refine V.block ?_
      refine V.seq ?_
      refine V.region ?_
      refine VL.r (.inl rfl) rfl (by decide) (yr_move rfl rfl) ?_
      refine VL.r (.inl rfl) rfl (by decide) (yr_move rfl rfl) ?_
      refine VL.q (.inl rfl) rfl (by decide) (yq_idx (k := (j1 - 1)) rfl Try.underlying23 sz26_Solve rfl rfl zz0 zz2 zz5 (by omega)) ?_
      refine VL.q (.inl rfl) rfl (by decide) (yq_loadF rfl fb26_Solve rfl zz0 (by omega)) ?_
      refine VL.r (.inl rfl) rfl (by decide) (yr_assign rfl rfl) ?_
      refine VL.nil ?_
      refine VE.then_wp ?_
      refine V.seq ?_
      refine V.seq ?_
      refine V.region ?_
      refine VL.r (.inl rfl) rfl (by decide) (yr_move rfl rfl) ?_
      refine VL.r (.inl rfl) rfl (by decide) (yr_int rfl rfl rfl (.inl ⟨rfl, wrap_in (by omega)⟩)) ?_
      refine VL.r (.inl rfl) rfl (by decide) (yr_assign rfl rfl) ?_
      refine VL.nil ?_
      refine VE.then_wp ?_
      refine V.block ?_
      refine V.loops (G := Nat) [(0, _), (5, _), (6, _), (10, _), (11, _)] (fun (k : Nat) => j1 + k ≤ n) (fun (k : Nat) => [(12, .float .f32 (bwdS l n (j1 - 1) (bwdF l n (fwdF l n bs n) (n - j1)) (fwdF l n bs n (j1 - 1)) k)), (13, .int .i64 ((j1 + k : Nat) : Int))]) (fun (k : Nat) => n - (j1 + k)) 0 (.cons rfl (.cons rfl (.cons rfl (.cons rfl (.cons rfl .nil))))) (.cons (congrArg (fun x => some (Value.float .f32 x)) (by rw [bwdS, hy _ (by omega)])) (.cons (congrArg (fun i => some (Value.int .i64 i)) (by omega)) .nil)) ?_ ?_
      · exact (by omega)
      rintro k hk
      show V _ _ _ _ ([(12, .float .f32 (bwdS l n (j1 - 1) (bwdF l n (fwdF l n bs n) (n - j1)) (fwdF l n bs n (j1 - 1)) k)), (13, .int .i64 ((j1 + k : Nat) : Int))] ++ [(0, _), (5, _), (6, _), (10, _), (11, _)]) _ _
      have hjj : (j1 - 1) * n + (j1 - 1) < n * n := hix (by omega) (by omega)
      have hjk : j1 + k < n → (j1 + k) * n + (j1 - 1) < n * n := fun h => hix h (by omega)
      refine V.seq ?_
      refine V.seq ?_
      refine V.region ?_
      refine VL.r (.inl rfl) rfl (by decide) (yr_move rfl rfl) ?_
      refine VL.r (.inl rfl) rfl (by decide) (yr_move rfl rfl) ?_
      refine VL.r (.inl rfl) rfl (by decide) (yr_icmp rfl (.inr (.inr (.inl rfl))) rfl rfl) ?_
      refine VL.nil ?_
      refine VE.then_wp ?_
      refine V.cond rfl (fun h4 => ?_) (fun h4 => ?_)
      · skip
        replace h4 := ic_lss h4
        refine V.skip ?_
        refine VE.then_wp ?_
        refine V.seq ?_
        refine V.block ?_
        refine V.draw [(0, 0), (1, 0), (2, 0), (3, 0), (4, 0), (5, 0), (6, 0), (7, 0), (8, 0), (9, 0), (10, 0), (11, 0), (12, 0), (13, 0), (14, 0), (15, 0)] mixed_Solve (by kernel_rfl) (by intro j o hj; simp at hj) ?_
        refine SW.r rfl (.inl rfl) rfl (by decide) (yr_move rfl rfl) ?_
        refine SW.r rfl (.inl rfl) rfl (by decide) (yr_move rfl rfl) ?_
        refine SW.r rfl (.inl rfl) rfl (by decide) (yr_move rfl rfl) ?_
        refine SW.r rfl (.inl rfl) rfl (by decide) (yr_move rfl rfl) ?_
        refine SW.r rfl (.inl rfl) rfl (by decide) (yr_mulN (j1 + k) n rfl rfl rfl (by omega) (by omega) (Nat.le_trans (mul_small (by omega) (by omega)) (by decide))) ?_
        refine SW.r rfl (.inl rfl) rfl (by decide) (yr_move rfl rfl) ?_
        refine SW.r rfl (.inl rfl) rfl (by decide) (yr_int rfl rfl rfl (.inl ⟨rfl, wrap_in (by omega)⟩)) ?_
        refine SW.q rfl (.inl rfl) rfl (by decide) (yq_idx (k := (((j1 + k) * n) + (j1 - 1))) rfl Try.underlying23 sz26_Solve rfl rfl zz0 zz2 zz5 (by omega)) ?_
        refine SW.q rfl (.inl rfl) rfl (by decide) (yq_loadF rfl fb26_Solve rfl zz0 (by omega)) ?_
        refine SW.r rfl (.inl rfl) rfl (by decide) (yr_move rfl rfl) ?_
        refine SW.r rfl (.inl rfl) rfl (by decide) (yr_move rfl rfl) ?_
        refine SW.q rfl (.inl rfl) rfl (by decide) (yq_idx (k := (j1 + k)) rfl Try.underlying23 sz26_Solve rfl rfl zz0 zz2 zz5 (by omega)) ?_
        refine SW.q rfl (.inl rfl) rfl (by decide) (yq_loadF rfl fb26_Solve rfl zz0 (by omega)) ?_
        refine SW.r rfl (.inl rfl) rfl (by decide) (yr_float rfl (.inr (.inr (.inl rfl))) rfl rfl) ?_
        refine SW.r rfl (.inl rfl) rfl (by decide) (yr_float rfl (.inr (.inl rfl)) rfl rfl) ?_
        refine SW.r rfl (.inl rfl) rfl (by decide) (yr_assign rfl rfl) ?_
        refine SW.done ?_
        refine VE.block_normal ?_
        refine VE.then_wp ?_
        refine V.region ?_
        refine VL.r (.inl rfl) rfl (by decide) (yr_move rfl rfl) ?_
        refine VL.r (.inl rfl) rfl (by decide) (yr_int rfl rfl rfl (.inl ⟨rfl, wrap_in (by omega)⟩)) ?_
        refine VL.r (.inl rfl) rfl (by decide) (yr_assign rfl rfl) ?_
        refine VL.nil ?_
        refine VE.round (k + 1) ?_ ?_ ?_ ?_ ?_
        · exact (.cons (congrArg (fun x => some (Value.float .f32 x)) (by rw [bwdS, show j1 - 1 + 1 + k = j1 + k by omega, hx _ (by omega) (by omega)])) (.cons (congrArg (fun i => some (Value.int .i64 i)) (by omega)) .nil))
        · exact (.cons rfl (.cons rfl (.cons rfl (.cons rfl (.cons rfl .nil)))))
        · exact (fun w hw => hw)
        · omega
        · (try dsimp only); omega
      · skip
        replace h4 := ic_lss' h4
        refine V.exit ?_
        refine VE.then_exit ?_
        refine VE.then_exit ?_
        refine VE.block_here ?_
        refine VE.then_wp ?_
        refine V.region ?_
        refine VL.r (.inl rfl) rfl (by decide) (yr_move rfl rfl) ?_
        refine VL.r (.inl rfl) rfl (by decide) (yr_move rfl rfl) ?_
        refine VL.r (.inl rfl) rfl (by decide) (yr_move rfl rfl) ?_
        refine VL.r (.inl rfl) rfl (by decide) (yr_move rfl rfl) ?_
        refine VL.r (.inl rfl) rfl (by decide) (yr_move rfl rfl) ?_
        refine VL.r (.inl rfl) rfl (by decide) (yr_move rfl rfl) ?_
        refine VL.r (.inl rfl) rfl (by decide) (yr_mulN (j1 - 1) n rfl rfl rfl (by omega) (by omega) (Nat.le_trans (mul_small (by omega) (by omega)) (by decide))) ?_
        refine VL.r (.inl rfl) rfl (by decide) (yr_move rfl rfl) ?_
        refine VL.r (.inl rfl) rfl (by decide) (yr_int rfl rfl rfl (.inl ⟨rfl, wrap_in (by omega)⟩)) ?_
        refine VL.q (.inl rfl) rfl (by decide) (yq_idx (k := (((j1 - 1) * n) + (j1 - 1))) rfl Try.underlying23 sz26_Solve rfl rfl zz0 zz2 zz5 (by omega)) ?_
        refine VL.q (.inl rfl) rfl (by decide) (yq_loadF rfl fb26_Solve rfl zz0 (by omega)) ?_
        refine VL.r (.inl rfl) rfl (by decide) (yr_float rfl (.inr (.inr (.inr rfl))) rfl rfl) ?_
        refine VL.q (.inl rfl) rfl (by decide) (yq_idx (k := (j1 - 1)) rfl Try.underlying23 sz26_Solve rfl rfl zz0 zz2 zz5 (by omega)) ?_
        refine VL.s (.inl rfl) rfl (yc_store rfl sz26_Solve rfl rfl zz6 (.inl ⟨rfl, rfl⟩) rfl (by rw [fl_length]; omega) (by decide) (fl_set _ _ _)) ?_
        rintro ⟨⟩
        refine VL.nil ?_
        refine VE.block_normal ?_
        refine VE.then_wp ?_
        refine V.region ?_
        refine VL.r (.inl rfl) rfl (by decide) (yr_move rfl rfl) ?_
        refine VL.r (.inl rfl) rfl (by decide) (yr_int rfl rfl rfl (.inr (.inl ⟨rfl, wrap_in (by omega)⟩))) ?_
        refine VL.r (.inl rfl) rfl (by decide) (yr_assign rfl rfl) ?_
        refine VL.nil ?_
        refine VE.round (j1 - 1, x.set (j1 - 1) (fop .quo .f32 (bwdS l n (j1 - 1) (bwdF l n (fwdF l n bs n) (n - j1)) (fwdF l n bs n (j1 - 1)) k) (l.getD ((j1 - 1) * n + (j1 - 1)) 0))) ?_ ?_ ?_ ?_ ?_
        · exact (.cons (congrArg (fun i => some (Value.int .i64 i)) (by omega)) .nil)
        · exact (.cons rfl (.cons rfl (.cons rfl (.cons rfl .nil))))
        · exact (fun w hw => hw)
        · obtain ⟨j0, rfl⟩ : ∃ j0, j1 = j0 + 1 := ⟨j1 - 1, by omega⟩
          obtain rfl : k = n - (j0 + 1) := by omega
          simp only [Nat.add_sub_cancel]
          refine ⟨by omega, by simp [hxl], fun t h1 h2 => ?_⟩
          rw [gset (by omega), bwdF_succ l n _ (by omega)]
          split
          · rfl
          · exact hx t (by omega) h2
        · (try dsimp only); omega
    · skip
      replace h3 := ic_geq' h3
      refine V.exit ?_
      refine VE.then_exit ?_
      refine VE.then_exit ?_
      refine VE.block_here ?_
      refine VE.then_wp ?_
      refine V.seq ?_
      refine V.region ?_
      refine VL.r (.inl rfl) rfl (by decide) (yr_move rfl rfl) ?_
      refine VL.r (.inl rfl) rfl (by decide) (yr_assign rfl rfl) ?_
      refine VL.nil ?_
      refine VE.then_wp ?_
      refine V.ret ?_
      refine ret1 rfl rfl (fun w1 hw => ?_)
      obtain rfl : j1 = 0 := by omega
      have hxs : x = solve l bs n := by
        refine ext_getD (by rw [hxl, solve_length]) fun i hi => ?_
        rw [hx i (by omega) (by omega)]
        unfold solve
        rw [getD_range _ _ (by omega)]
        rfl
      subst hxs
      exact ⟨_, rfl, hw.out1⟩
theorem c_specSolve [PhC] {w : World} {a b : Option Addr} {c d : Nat} {l bs : List Nat} (hA : Cl w a (fl l)) (hB : Cl w b (fl bs)) (hln : l.length ≤ 1050000) (hbn : bs.length ≤ 1050000) : New Try.prog 51 [.slice a l.length c, .slice b bs.length d] w (fun p : Option Addr × Nat => .tuple #[.slice p.1 (solveOf l bs).length p.2, .bool (solveOk l bs)]) (fun p => [⟨p.1, fl (solveOf l bs), p.2 * 1, 26⟩]) := by
  obtain ⟨n, hn⟩ : ∃ n, n = side l.length := ⟨_, rfl⟩
  have hn8 : n ≤ 8 := by rw [hn]; exact side_le _
  have hnn : n * n ≤ 64 := Nat.mul_le_mul hn8 hn8
  have hix : ∀ {j k : Nat}, j < n → k < n → j * n + k < n * n := idx_lt
  refine New.enter Try.func51 rfl Try.ntmps51 (Nat.le_of_ble_eq_true rfl) ?_
  refine V.seq ?_
  refine V.region ?_
  refine VL.r (.inl rfl) rfl (by decide) (yr_assign (u := .slice none 0 0) rfl rfl) ?_
  refine VL.r (.inl rfl) rfl (by decide) (yr_assign (u := .bool false) rfl rfl) ?_
  refine VL.nil ?_
  refine VE.then_wp ?_
  refine V.seq ?_
  refine V.region ?_
  refine VL.r (.inl rfl) rfl (by decide) (yr_move rfl rfl) ?_
  refine VL.r (.inl rfl) rfl (by decide) (yr_len rfl Try.underlying23 rfl) ?_
  refine VL.q (.inl rfl) rfl (by decide) (yq_callf rfl known87_Solve (.cons rfl .nil) (fun w hw => (c_l07Side (by assumption) (by omega)))) ?_
  refine VL.r (.inl rfl) rfl (by decide) (yr_assign rfl rfl) ?_
  refine VL.nil ?_
  refine VE.then_wp ?_
  refine V.seq ?_
  refine V.seq ?_
  refine V.region ?_
  refine VL.r (.inl rfl) rfl (by decide) (yr_move rfl rfl) ?_
  refine VL.r (.inl rfl) rfl (by decide) (yr_icmp rfl (.inl rfl) rfl rfl) ?_
  refine VL.r (.inl rfl) rfl (by decide) (yr_move rfl rfl) ?_
  refine VX.split 13 _ rfl (fun h1 => ?_) (fun h1 => ?_)
  · skip
    replace h1 := ic_eql h1
    refine VL.no rfl rfl rfl rfl rfl (by decide) ?_
    refine VL.no rfl rfl rfl rfl rfl (by decide) ?_
    refine VL.no rfl rfl rfl rfl rfl (by decide) ?_
    refine VL.no rfl rfl rfl rfl rfl (by decide) ?_
    refine VL.r (.inl rfl) rfl (by decide) (yr_pick_t (u := .bool true) rfl rfl rfl) ?_
    refine VL.nil ?_
    refine VE.then_wp ?_
    refine V.condT rfl ?_
    refine V.seq ?_
    refine V.region ?_
    refine VL.r (.inl rfl) rfl (by decide) (yr_assign (u := .slice none 0 0) rfl rfl) ?_
    refine VL.r (.inl rfl) rfl (by decide) (yr_assign (u := .bool false) rfl rfl) ?_
    refine VL.nil ?_
    refine VE.then_wp ?_
    refine V.ret ?_
    refine VE.then_ret ?_
    refine ret2 rfl rfl rfl (by nofun) (by nofun) (fun w1 hw => ?_)
    have hs : solveOk l bs = false := ok_no0 (by rw [← hn]; omega)
    exact ⟨(none, 0), by rw [solveOf_no hs, hs]; rfl, hw.below, by rw [solveOf_no hs]; simp [fl, Ent.at], List.pairwise_singleton _ _⟩
  · skip
    replace h1 := ic_eql' h1
    have hl : l.length = n * n := by rw [hn]; exact (side_mul (by rw [← hn]; omega)).symm
    refine VL.r (.inr ⟨_, _, _, rfl, rfl, rfl⟩) rfl (by decide) (yr_move rfl rfl) ?_
    refine VL.r (.inr ⟨_, _, _, rfl, rfl, rfl⟩) rfl (by decide) (yr_len rfl Try.underlying23 rfl) ?_
    refine VL.r (.inr ⟨_, _, _, rfl, rfl, rfl⟩) rfl (by decide) (yr_move rfl rfl) ?_
    refine VL.r (.inr ⟨_, _, _, rfl, rfl, rfl⟩) rfl (by decide) (yr_icmp rfl (.inr (.inl rfl)) rfl rfl) ?_
    refine VL.r (.inl rfl) rfl (by decide) (yr_pick_f rfl rfl rfl) ?_
    refine VL.nil ?_
    refine VE.then_wp ?_
    refine V.cond rfl (fun h3 => ?_) (fun h3 => ?_)
    · skip
      replace h3 := ic_neq h3
      refine V.seq ?_
      refine V.region ?_
      refine VL.r (.inl rfl) rfl (by decide) (yr_assign (u := .slice none 0 0) rfl rfl) ?_
      refine VL.r (.inl rfl) rfl (by decide) (yr_assign (u := .bool false) rfl rfl) ?_
      refine VL.nil ?_
      refine VE.then_wp ?_
      refine V.ret ?_
      refine VE.then_ret ?_
      refine ret2 rfl rfl rfl (by nofun) (by nofun) (fun w1 hw => ?_)
      have hs : solveOk l bs = false := ok_no1 (by rw [← hn]; omega)
      exact ⟨(none, 0), by rw [solveOf_no hs, hs]; rfl, hw.below, by rw [solveOf_no hs]; simp [fl, Ent.at], List.pairwise_singleton _ _⟩
    · skip
      replace h3 := ic_neq' h3
      refine V.skip ?_
      refine VE.then_wp ?_
      refine V.seq ?_
      refine V.seq ?_
      refine V.region ?_
      refine VL.r (.inl rfl) rfl (by decide) (yr_assign (u := .int .i64 0) rfl rfl) ?_
      refine VL.nil ?_
      refine VE.then_wp ?_
      refine V.block ?_
      refine V.loops (G := Nat) [(0, _), (1, _), (6, _)] (fun (j : Nat) => j ≤ n ∧ ∀ t, t < j → fcmp .eql .f32 (l.getD (t * n + t) 0) 0 = false) (fun (j : Nat) => [(7, .int .i64 (j : Int))]) (fun (j : Nat) => n - j) 0 (.cons rfl (.cons rfl (.cons rfl .nil))) (.cons rfl .nil) ?_ ?_
      · exact (by exact ⟨by omega, fun t h => by omega⟩)
      rintro j ⟨hj, hc⟩
      show V _ _ _ _ ([(7, .int .i64 (j : Int))] ++ [(0, _), (1, _), (6, _)]) _ _
      have hjj : j < n → j * n + j < n * n := fun h => hix h h
      refine V.seq ?_
      refine V.seq ?_
      refine V.region ?_
      refine VL.r (.inl rfl) rfl (by decide) (yr_move rfl rfl) ?_
      refine VL.r (.inl rfl) rfl (by decide) (yr_move rfl rfl) ?_
      refine VL.r (.inl rfl) rfl (by decide) (yr_icmp rfl (.inr (.inr (.inl rfl))) rfl rfl) ?_
      refine VL.nil ?_
      refine VE.then_wp ?_
      refine V.cond rfl (fun h4 => ?_) (fun h4 => ?_)
      · skip
        replace h4 := ic_lss h4
        refine V.skip ?_
        refine VE.then_wp ?_
        refine V.seq ?_
        refine V.block ?_
        refine V.seq ?_
        refine V.region ?_
        refine VL.r (.inl rfl) rfl (by decide) (yr_move rfl rfl) ?_
        refine VL.r (.inl rfl) rfl (by decide) (yr_move rfl rfl) ?_
        refine VL.r (.inl rfl) rfl (by decide) (yr_move rfl rfl) ?_
        refine VL.r (.inl rfl) rfl (by decide) (yr_mulN j n rfl rfl rfl (by omega) (by omega) (Nat.le_trans (mul_small (by omega) (by omega)) (by decide))) ?_
        refine VL.r (.inl rfl) rfl (by decide) (yr_move rfl rfl) ?_
        refine VL.r (.inl rfl) rfl (by decide) (yr_int rfl rfl rfl (.inl ⟨rfl, wrap_in (by omega)⟩)) ?_
        refine VL.q (.inl rfl) rfl (by decide) (yq_idx (k := ((j * n) + j)) rfl Try.underlying23 sz26_Solve rfl rfl zz0 zz2 zz5 (by omega)) ?_
        refine VL.q (.inl rfl) rfl (by decide) (yq_loadF rfl fb26_Solve rfl zz0 (by omega)) ?_
        refine VL.r (.inl rfl) rfl (by decide) (yr_fcmp (b := 0) rfl (.inl rfl) rfl rfl) ?_
        refine VL.nil ?_
        refine VE.then_wp ?_
        refine V.cond rfl (fun h5 => ?_) (fun h5 => ?_)
        · skip
          refine V.seq ?_
          refine V.region ?_
          refine VL.r (.inl rfl) rfl (by decide) (yr_assign (u := .slice none 0 0) rfl rfl) ?_
          refine VL.r (.inl rfl) rfl (by decide) (yr_assign (u := .bool false) rfl rfl) ?_
          refine VL.nil ?_
          refine VE.then_wp ?_
          refine V.ret ?_
          refine VE.block_ret ?_
          refine VE.then_ret ?_
          refine VE.then_ret ?_
          refine VE.block_ret ?_
          refine VE.then_ret ?_
          refine ret2 rfl rfl rfl (by nofun) (by nofun) (fun w1 hw => ?_)
          have hs : solveOk l bs = false := ok_no2 (j := j) (by rw [← hn]; omega) (by rw [← hn]; assumption)
          exact ⟨(none, 0), by rw [solveOf_no hs, hs]; rfl, hw.below, by rw [solveOf_no hs]; simp [fl, Ent.at], List.pairwise_singleton _ _⟩
        · skip
          refine V.skip ?_
          refine VE.block_normal ?_
          refine VE.then_wp ?_
          refine V.region ?_
          refine VL.r (.inl rfl) rfl (by decide) (yr_move rfl rfl) ?_
          refine VL.r (.inl rfl) rfl (by decide) (yr_int rfl rfl rfl (.inl ⟨rfl, wrap_in (by omega)⟩)) ?_
          refine VL.r (.inl rfl) rfl (by decide) (yr_assign rfl rfl) ?_
          refine VL.nil ?_
          refine VE.round (j + 1) ?_ ?_ ?_ ?_ ?_
          · exact (.cons rfl .nil)
          · exact (.cons rfl (.cons rfl (.cons rfl .nil)))
          · exact (fun w hw => hw)
          · exact ⟨by omega, fun t ht => by rcases Nat.lt_or_ge t j with g | g; exact hc t g; obtain rfl : t = j := (by omega); assumption⟩
          · (try dsimp only); omega
      · skip
        replace h4 := ic_lss' h4
        refine V.exit ?_
        refine VE.then_exit ?_
        refine VE.then_exit ?_
        refine VE.block_here ?_
        refine VE.then_wp ?_
        refine V.seq ?_
        refine V.region ?_
        refine VL.r (.inl rfl) rfl (by decide) (yr_move rfl rfl) ?_
        refine VL.r (.inl rfl) rfl (by decide) (yr_move rfl rfl) ?_
        refine VL.new1 (.inl rfl) rfl (by decide) (yn_callf rfl known88_Solve (.cons rfl (.cons rfl .nil)) (fun w hw => (c_l07Solve zz1 zz1 (by omega) (by omega) (by omega)))) ?_
        intro b35
        refine VL.r (.inl rfl) rfl (by decide) (yr_assign rfl rfl) ?_
        refine VL.r (.inl rfl) rfl (by decide) (yr_assign (u := .bool true) rfl rfl) ?_
        refine VL.nil ?_
        refine VE.then_wp ?_
        refine V.ret ?_
        refine ret2 rfl rfl rfl (by nofun) (by nofun) (fun w1 hw => ?_)
        have hs : solveOk l bs = true := ok_yes (by rw [← hn]; omega) (by rw [← hn]; omega) (by rw [← hn]; exact fun t ht => hc t (by omega))
        have hso : solveOf l bs = solve l bs n := by rw [solveOf_yes hs, ← hn]
        exact ⟨(some ⟨b35, 0, none⟩, n), by rw [hso, hs, solve_length], by rw [hso]; exact hw.out1⟩
theorem c_implSolve [PhC] {w : World} {a b : Option Addr} {c d : Nat} {l bs : List Nat} (hA : Cl w a (fl l)) (hB : Cl w b (fl bs)) (hln : l.length ≤ 1050000) (hbn : bs.length ≤ 1050000) : New Try.prog 26 [.slice a l.length c, .slice b bs.length d] w (fun p : Option Addr × Nat => .tuple #[.slice p.1 (solveOf l bs).length p.2, .bool (solveOk l bs)]) (fun p => [⟨p.1, fl (solveOf l bs), p.2 * 1, 26⟩]) := by
  obtain ⟨n, hn⟩ : ∃ n, n = side l.length := ⟨_, rfl⟩
  have hn8 : n ≤ 8 := by rw [hn]; exact side_le _
  have hnn : n * n ≤ 64 := Nat.mul_le_mul hn8 hn8
  have hix : ∀ {j k : Nat}, j < n → k < n → j * n + k < n * n := idx_lt
  refine New.enter Try.func26 rfl Try.ntmps26 (Nat.le_of_ble_eq_true rfl) ?_
  refine V.seq ?_
  refine V.region ?_
  refine VL.r (.inl rfl) rfl (by decide) (yr_assign (u := .slice none 0 0) rfl rfl) ?_
  refine VL.r (.inl rfl) rfl (by decide) (yr_assign (u := .bool false) rfl rfl) ?_
  refine VL.nil ?_
  refine VE.then_wp ?_
  refine V.seq ?_
  refine V.region ?_
  refine VL.r (.inl rfl) rfl (by decide) (yr_move rfl rfl) ?_
  refine VL.q (.inl rfl) rfl (by decide) (yq_callf rfl known58_Solve (.cons rfl .nil) (fun w hw => (c_sideOf hn (by omega)))) ?_
  refine VL.r (.inl rfl) rfl (by decide) (yr_move rfl rfl) ?_
  refine VL.r (.inl rfl) rfl (by decide) (yr_extract rfl rfl rfl (by nofun)) ?_
  refine VL.r (.inl rfl) rfl (by decide) (yr_extract rfl rfl rfl (by nofun)) ?_
  refine VL.r (.inl rfl) rfl (by decide) (yr_assign rfl rfl) ?_
  refine VL.r (.inl rfl) rfl (by decide) (yr_assign rfl rfl) ?_
  refine VL.nil ?_
  refine VE.then_wp ?_
  refine V.seq ?_
  refine V.seq ?_
  refine V.region ?_
  refine VL.r (.inl rfl) rfl (by decide) (yr_move rfl rfl) ?_
  refine VL.r (.inl rfl) rfl (by decide) (yr_not rfl rfl) ?_
  refine VL.r (.inl rfl) rfl (by decide) (yr_move rfl rfl) ?_
  refine VX.split 21 _ rfl (fun h1 => ?_) (fun h1 => ?_)
  · skip
    replace h1 := bnot_t h1
    replace h1 := of_decide_eq_false h1
    refine VL.no rfl rfl rfl rfl rfl (by decide) ?_
    refine VL.no rfl rfl rfl rfl rfl (by decide) ?_
    refine VL.no rfl rfl rfl rfl rfl (by decide) ?_
    refine VL.no rfl rfl rfl rfl rfl (by decide) ?_
    refine VL.r (.inl rfl) rfl (by decide) (yr_pick_t (u := .bool true) rfl rfl rfl) ?_
    refine VL.nil ?_
    refine VE.then_wp ?_
    refine V.condT rfl ?_
    refine V.seq ?_
    refine V.region ?_
    refine VL.r (.inl rfl) rfl (by decide) (yr_assign (u := .slice none 0 0) rfl rfl) ?_
    refine VL.r (.inl rfl) rfl (by decide) (yr_assign (u := .bool false) rfl rfl) ?_
    refine VL.nil ?_
    refine VE.then_wp ?_
    refine V.ret ?_
    refine VE.then_ret ?_
    refine ret2 rfl rfl rfl (by nofun) (by nofun) (fun w1 hw => ?_)
    have hs : solveOk l bs = false := ok_no0 (by rw [← hn]; omega)
    exact ⟨(none, 0), by rw [solveOf_no hs, hs]; rfl, hw.below, by rw [solveOf_no hs]; simp [fl, Ent.at], List.pairwise_singleton _ _⟩
  · skip
    replace h1 := bnot_f h1
    replace h1 := of_decide_eq_true h1
    have hl : l.length = n * n := by rw [hn]; exact (side_mul (by rw [← hn]; omega)).symm
    refine VL.r (.inr ⟨_, _, _, rfl, rfl, rfl⟩) rfl (by decide) (yr_move rfl rfl) ?_
    refine VL.r (.inr ⟨_, _, _, rfl, rfl, rfl⟩) rfl (by decide) (yr_len rfl Try.underlying23 rfl) ?_
    refine VL.r (.inr ⟨_, _, _, rfl, rfl, rfl⟩) rfl (by decide) (yr_move rfl rfl) ?_
    refine VL.r (.inr ⟨_, _, _, rfl, rfl, rfl⟩) rfl (by decide) (yr_icmp rfl (.inr (.inl rfl)) rfl rfl) ?_
    refine VL.r (.inl rfl) rfl (by decide) (yr_pick_f rfl rfl rfl) ?_
    refine VL.nil ?_
    refine VE.then_wp ?_
    refine V.cond rfl (fun h3 => ?_) (fun h3 => ?_)
    · skip
      replace h3 := ic_neq h3
      refine V.seq ?_
      refine V.region ?_
      refine VL.r (.inl rfl) rfl (by decide) (yr_assign (u := .slice none 0 0) rfl rfl) ?_
      refine VL.r (.inl rfl) rfl (by decide) (yr_assign (u := .bool false) rfl rfl) ?_
      refine VL.nil ?_
      refine VE.then_wp ?_
      refine V.ret ?_
      refine VE.then_ret ?_
      refine ret2 rfl rfl rfl (by nofun) (by nofun) (fun w1 hw => ?_)
      have hs : solveOk l bs = false := ok_no1 (by rw [← hn]; omega)
      exact ⟨(none, 0), by rw [solveOf_no hs, hs]; rfl, hw.below, by rw [solveOf_no hs]; simp [fl, Ent.at], List.pairwise_singleton _ _⟩
    · skip
      replace h3 := ic_neq' h3
      refine V.skip ?_
      refine VE.then_wp ?_
      refine V.seq ?_
      refine V.seq ?_
      refine V.region ?_
      refine VL.r (.inl rfl) rfl (by decide) (yr_move rfl rfl) ?_
      refine VL.r (.inl rfl) rfl (by decide) (yr_move (u := .int .i64 0) rfl rfl) ?_
      refine VL.nil ?_
      refine VE.then_wp ?_
      refine V.block ?_
      refine V.loops (G := Nat) [(0, _), (1, _), (6, _), (27, _)] (fun (j : Nat) => j ≤ n ∧ ∀ t, t < j → fcmp .eql .f32 (l.getD (t * n + t) 0) 0 = false) (fun (j : Nat) => [(28, .int .i64 (j : Int))]) (fun (j : Nat) => n - j) 0 (.cons rfl (.cons rfl (.cons rfl (.cons rfl .nil)))) (.cons rfl .nil) ?_ ?_
      · exact (by exact ⟨by omega, fun t h => by omega⟩)
      rintro j ⟨hj, hc⟩
      show V _ _ _ _ ([(28, .int .i64 (j : Int))] ++ [(0, _), (1, _), (6, _), (27, _)]) _ _
      have hjj : j < n → j * n + j < n * n := fun h => hix h h
      refine V.seq ?_
      refine V.region ?_
      refine VL.r (.inl rfl) rfl (by decide) (yr_icmp rfl (.inr (.inr (.inl rfl))) rfl rfl) ?_
      refine VL.nil ?_
      refine VE.then_wp ?_
      refine V.seq ?_
      refine V.cond rfl (fun h4 => ?_) (fun h4 => ?_)
      · skip
        replace h4 := ic_lss h4
        refine V.skip ?_
        refine VE.then_wp ?_
        refine V.seq ?_
        refine V.block ?_
        refine V.seq ?_
        refine V.region ?_
        refine VL.r (.inl rfl) rfl (by decide) (yr_move rfl rfl) ?_
        refine VL.r (.inl rfl) rfl (by decide) (yr_assign rfl rfl) ?_
        refine VL.nil ?_
        refine VE.then_wp ?_
        refine V.seq ?_
        refine V.region ?_
        refine VL.r (.inl rfl) rfl (by decide) (yr_move rfl rfl) ?_
        refine VL.r (.inl rfl) rfl (by decide) (yr_move rfl rfl) ?_
        refine VL.r (.inl rfl) rfl (by decide) (yr_move rfl rfl) ?_
        refine VL.r (.inl rfl) rfl (by decide) (yr_mulN j n rfl rfl rfl (by omega) (by omega) (Nat.le_trans (mul_small (by omega) (by omega)) (by decide))) ?_
        refine VL.r (.inl rfl) rfl (by decide) (yr_move rfl rfl) ?_
        refine VL.r (.inl rfl) rfl (by decide) (yr_int rfl rfl rfl (.inl ⟨rfl, wrap_in (by omega)⟩)) ?_
        refine VL.q (.inl rfl) rfl (by decide) (yq_idx (k := ((j * n) + j)) rfl Try.underlying23 sz26_Solve rfl rfl zz0 zz2 zz5 (by omega)) ?_
        refine VL.q (.inl rfl) rfl (by decide) (yq_loadF rfl fb26_Solve rfl zz0 (by omega)) ?_
        refine VL.r (.inl rfl) rfl (by decide) (yr_fcmp (b := 0) rfl (.inl rfl) rfl rfl) ?_
        refine VL.nil ?_
        refine VE.then_wp ?_
        refine V.cond rfl (fun h5 => ?_) (fun h5 => ?_)
        · skip
          refine V.seq ?_
          refine V.region ?_
          refine VL.r (.inl rfl) rfl (by decide) (yr_assign (u := .slice none 0 0) rfl rfl) ?_
          refine VL.r (.inl rfl) rfl (by decide) (yr_assign (u := .bool false) rfl rfl) ?_
          refine VL.nil ?_
          refine VE.then_wp ?_
          refine V.ret ?_
          refine VE.block_ret ?_
          refine VE.then_ret ?_
          refine VE.then_ret ?_
          refine VE.block_ret ?_
          refine VE.then_ret ?_
          refine ret2 rfl rfl rfl (by nofun) (by nofun) (fun w1 hw => ?_)
          have hs : solveOk l bs = false := ok_no2 (j := j) (by rw [← hn]; omega) (by rw [← hn]; assumption)
          exact ⟨(none, 0), by rw [solveOf_no hs, hs]; rfl, hw.below, by rw [solveOf_no hs]; simp [fl, Ent.at], List.pairwise_singleton _ _⟩
        · skip
          refine V.skip ?_
          refine VE.block_normal ?_
          refine VE.then_wp ?_
          refine V.region ?_
          refine VL.r (.inl rfl) rfl (by decide) (yr_int rfl rfl rfl (.inl ⟨rfl, wrap_in (by omega)⟩)) ?_
          refine VL.r (.inl rfl) rfl (by decide) (yr_move rfl rfl) ?_
          refine VL.nil ?_
          refine VE.round (j + 1) ?_ ?_ ?_ ?_ ?_
          · exact (.cons rfl .nil)
          · exact (.cons rfl (.cons rfl (.cons rfl (.cons rfl .nil))))
          · exact (fun w hw => hw)
          · exact ⟨by omega, fun t ht => by rcases Nat.lt_or_ge t j with g | g; exact hc t g; obtain rfl : t = j := (by omega); assumption⟩
          · (try dsimp only); omega
      · skip
        replace h4 := ic_lss' h4
        refine V.exit ?_
        refine VE.then_exit ?_
        refine VE.then_exit ?_
        refine VE.block_here ?_
        refine VE.then_wp ?_
        refine V.seq ?_
        refine V.region ?_
        refine VL.r (.inl rfl) rfl (by decide) (yr_move rfl rfl) ?_
        refine VL.new1 (.inl rfl) rfl (by decide) (yn_callf rfl known60_Solve (.cons rfl .nil) (fun w hw => c_cloneF zz1 (by omega))) ?_
        rintro ⟨a42, c42⟩
        refine VL.r (.inl rfl) rfl (by decide) (yr_assign rfl rfl) ?_
        refine VL.nil ?_
        refine VE.then_wp ?_
        refine V.seq ?_
        refine V.seq ?_
        refine V.region ?_
        refine VL.r (.inl rfl) rfl (by decide) (yr_move rfl rfl) ?_
        refine VL.r (.inl rfl) rfl (by decide) (yr_move (u := .int .i64 0) rfl rfl) ?_
        refine VL.nil ?_
        refine VE.then_wp ?_
        refine V.block ?_
        refine V.loopc (G := Nat × (List Nat)) [(0, _), (6, _), (9, _), (43, _)] (fun ⟨j, x⟩ => j ≤ n ∧ x.length = n ∧ ∀ t, t < n → x.getD t 0 = fwdF l n bs j t) (fun ⟨j, x⟩ => [⟨a42, fl x, c42 * 1, 26⟩]) (fun ⟨j, x⟩ => [(44, .int .i64 (j : Int))]) (fun ⟨j, x⟩ => n - j) (0, bs) (.cons rfl (.cons rfl (.cons rfl (.cons rfl .nil)))) (.cons rfl .nil) ?_ ?_ ?_
        · exact (fun w hw => hw)
        · exact (by exact ⟨by omega, by omega, fun t h => rfl⟩)
        rintro ⟨j, x⟩ ⟨hj, hxl, hx⟩
        show V _ _ _ [⟨a42, fl x, c42 * 1, 26⟩] ([(44, .int .i64 (j : Int))] ++ [(0, _), (6, _), (9, _), (43, _)]) _ _
        have hjj : j < n → j * n + j < n * n := fun h => hix h h
        refine V.seq ?_
        refine V.region ?_
        refine VL.r (.inl rfl) rfl (by decide) (yr_icmp rfl (.inr (.inr (.inl rfl))) rfl rfl) ?_
        refine VL.nil ?_
        refine VE.then_wp ?_
        refine V.seq ?_
        refine V.cond rfl (fun h6 => ?_) (fun h6 => ?_)
        · skip
          replace h6 := ic_lss h6
          refine V.skip ?_
          refine VE.then_wp ?_
          refine V.seq ?_
          refine V.block ?_
          refine V.seq ?_
          refine V.region ?_
          refine VL.r (.inl rfl) rfl (by decide) (yr_move rfl rfl) ?_
          refine VL.r (.inl rfl) rfl (by decide) (yr_assign rfl rfl) ?_
          refine VL.nil ?_
          refine VE.then_wp ?_
          refine V.seq ?_
          refine V.seq ?_
          refine V.region ?_
          refine VL.r (.inl rfl) rfl (by decide) (yr_move rfl rfl) ?_
          refine VL.r (.inl rfl) rfl (by decide) (yr_move (u := .int .i64 0) rfl rfl) ?_
          refine VL.nil ?_
          refine VE.then_wp ?_
          refine V.block ?_
          refine V.loopc (G := Nat × (List Nat)) [(0, _), (6, _), (9, _), (10, _), (43, _), (44, _), (47, _)] (fun ⟨k, z⟩ => k ≤ j ∧ z.length = n ∧ ∀ t, t < n → z.getD t 0 = if t = j then fwdS l n j (fwdF l n bs j) (bs.getD j 0) k else fwdF l n bs j t) (fun ⟨k, z⟩ => [⟨a42, fl z, c42 * 1, 26⟩]) (fun ⟨k, z⟩ => [(48, .int .i64 (k : Int))]) (fun ⟨k, z⟩ => j - k) (0, x) (.cons rfl (.cons rfl (.cons rfl (.cons rfl (.cons rfl (.cons rfl (.cons rfl .nil))))))) (.cons rfl .nil) ?_ ?_ ?_
          · exact (fun w hw => hw)
          · exact (by exact ⟨by omega, hxl, fun t h => by rw [hx t h]; split <;> first | rfl | (rename_i e; subst e; rw [fwdS, fwdF_ge _ _ _ _ _ (Nat.le_refl _)])⟩)
          rintro ⟨k, z⟩ ⟨hk, hzl, hz⟩
          show V _ _ _ [⟨a42, fl z, c42 * 1, 26⟩] ([(48, .int .i64 (k : Int))] ++ [(0, _), (6, _), (9, _), (10, _), (43, _), (44, _), (47, _)]) _ _
          have hjk : j < n → k < j → j * n + k < n * n := fun h g => hix h (by omega)
          refine V.seq ?_
          refine V.region ?_
          refine VL.r (.inl rfl) rfl (by decide) (yr_icmp rfl (.inr (.inr (.inl rfl))) rfl rfl) ?_
          refine VL.nil ?_
          refine VE.then_wp ?_
          refine V.seq ?_
          refine V.cond rfl (fun h7 => ?_) (fun h7 => ?_)
          · skip
            replace h7 := ic_lss h7
            refine V.skip ?_
            refine VE.then_wp ?_
            refine V.seq ?_
            refine V.block ?_
            refine V.seq ?_
            refine V.region ?_
            refine VL.r (.inl rfl) rfl (by decide) (yr_move rfl rfl) ?_
            refine VL.r (.inl rfl) rfl (by decide) (yr_assign rfl rfl) ?_
            refine VL.nil ?_
            refine VE.then_wp ?_
            refine V.draw [(0, 0), (1, 0), (2, 0), (3, 0), (4, 0), (5, 0), (6, 0), (7, 0), (8, 0), (9, 0), (10, 0), (11, 0), (12, 0), (13, 0), (14, 0), (15, 0), (16, 0), (17, 0), (18, 0), (19, 0), (20, 0), (21, 3)] mixed_Solve (by kernel_rfl) (by intro j o hj; simp at hj) ?_
            refine SW.r rfl (.inl rfl) rfl (by decide) (yr_move rfl rfl) ?_
            refine SW.r rfl (.inl rfl) rfl (by decide) (yr_move rfl rfl) ?_
            refine SW.r rfl (.inl rfl) rfl (by decide) (yr_move rfl rfl) ?_
            refine SW.r rfl (.inl rfl) rfl (by decide) (yr_move rfl rfl) ?_
            refine SW.q rfl (.inl rfl) rfl (by decide) (yq_idx (k := j) rfl Try.underlying23 sz26_Solve rfl rfl zz0 zz2 zz5 (by omega)) ?_
            refine SW.q rfl (.inl rfl) rfl (by decide) (yq_loadF rfl fb26_Solve rfl zz0 (by omega)) ?_
            refine SW.r rfl (.inl rfl) rfl (by decide) (yr_move rfl rfl) ?_
            refine SW.r rfl (.inl rfl) rfl (by decide) (yr_move rfl rfl) ?_
            refine SW.r rfl (.inl rfl) rfl (by decide) (yr_move rfl rfl) ?_
            refine SW.r rfl (.inl rfl) rfl (by decide) (yr_mulN j n rfl rfl rfl (by omega) (by omega) (Nat.le_trans (mul_small (by omega) (by omega)) (by decide))) ?_
            refine SW.r rfl (.inl rfl) rfl (by decide) (yr_move rfl rfl) ?_
            refine SW.r rfl (.inl rfl) rfl (by decide) (yr_int rfl rfl rfl (.inl ⟨rfl, wrap_in (by omega)⟩)) ?_
            refine SW.q rfl (.inl rfl) rfl (by decide) (yq_idx (k := ((j * n) + k)) rfl Try.underlying23 sz26_Solve rfl rfl zz0 zz2 zz5 (by omega)) ?_
            refine SW.q rfl (.inl rfl) rfl (by decide) (yq_loadF rfl fb26_Solve rfl zz0 (by omega)) ?_
            refine SW.r rfl (.inl rfl) rfl (by decide) (yr_move rfl rfl) ?_
            refine SW.r rfl (.inl rfl) rfl (by decide) (yr_move rfl rfl) ?_
            refine SW.q rfl (.inl rfl) rfl (by decide) (yq_idx (k := k) rfl Try.underlying23 sz26_Solve rfl rfl zz0 zz2 zz5 (by omega)) ?_
            refine SW.q rfl (.inl rfl) rfl (by decide) (yq_loadF rfl fb26_Solve rfl zz0 (by omega)) ?_
            refine SW.r rfl (.inl rfl) rfl (by decide) (yr_float rfl (.inr (.inr (.inl rfl))) rfl rfl) ?_
            refine SW.r rfl (.inl rfl) rfl (by decide) (yr_float rfl (.inr (.inl rfl)) rfl rfl) ?_
            refine SW.q rfl (.inl rfl) rfl (by decide) (yq_idx (k := j) rfl Try.underlying23 sz26_Solve rfl rfl zz0 zz2 zz5 (by omega)) ?_
            refine SW.s rfl (.inl rfl) rfl (yc_store rfl sz26_Solve rfl rfl zz6 (.inl ⟨rfl, rfl⟩) rfl (by rw [fl_length]; omega) (by decide) (fl_set _ _ _)) ?_
            rintro ⟨⟩
            refine SW.done ?_
            refine VE.block_normal ?_
            refine VE.then_wp ?_
            refine V.region ?_
            refine VL.r (.inl rfl) rfl (by decide) (yr_int rfl rfl rfl (.inl ⟨rfl, wrap_in (by omega)⟩)) ?_
            refine VL.r (.inl rfl) rfl (by decide) (yr_move rfl rfl) ?_
            refine VL.nil ?_
            refine VE.round (k + 1, z.set j (fop .sub .f32 (z.getD j 0) (fop .mul .f32 (l.getD (j * n + k) 0) (z.getD k 0)))) ?_ ?_ ?_ ?_ ?_
            · exact (.cons rfl .nil)
            · exact (.cons rfl (.cons rfl (.cons rfl (.cons rfl (.cons rfl (.cons rfl (.cons rfl .nil)))))))
            · exact (fun w hw => hw)
            · refine ⟨by omega, by simp [hzl], fun t ht => ?_⟩
              rw [gset (by omega)]
              split
              · rw [hz j (by omega), if_pos rfl, hz k (by omega), if_neg (by omega), fwdS]
              · rw [hz t ht, if_neg (by assumption)]
            · (try dsimp only); omega
          · skip
            replace h7 := ic_lss' h7
            refine V.exit ?_
            refine VE.then_exit ?_
            refine VE.then_exit ?_
            refine VE.block_here ?_
            refine VE.then_wp ?_
            refine V.draw [(0, 0), (1, 0), (2, 0), (3, 0), (4, 0), (5, 0), (6, 0), (7, 0), (8, 0), (9, 0), (10, 0), (11, 0), (12, 0), (13, 0), (14, 0), (15, 0), (16, 3)] mixed_Solve (by kernel_rfl) (by intro j o hj; simp at hj) ?_
            refine SW.r rfl (.inl rfl) rfl (by decide) (yr_move rfl rfl) ?_
            refine SW.r rfl (.inl rfl) rfl (by decide) (yr_move rfl rfl) ?_
            refine SW.r rfl (.inl rfl) rfl (by decide) (yr_move rfl rfl) ?_
            refine SW.r rfl (.inl rfl) rfl (by decide) (yr_move rfl rfl) ?_
            refine SW.q rfl (.inl rfl) rfl (by decide) (yq_idx (k := j) rfl Try.underlying23 sz26_Solve rfl rfl zz0 zz2 zz5 (by omega)) ?_
            refine SW.q rfl (.inl rfl) rfl (by decide) (yq_loadF rfl fb26_Solve rfl zz0 (by omega)) ?_
            refine SW.r rfl (.inl rfl) rfl (by decide) (yr_move rfl rfl) ?_
            refine SW.r rfl (.inl rfl) rfl (by decide) (yr_move rfl rfl) ?_
            refine SW.r rfl (.inl rfl) rfl (by decide) (yr_move rfl rfl) ?_
            refine SW.r rfl (.inl rfl) rfl (by decide) (yr_mulN j n rfl rfl rfl (by omega) (by omega) (Nat.le_trans (mul_small (by omega) (by omega)) (by decide))) ?_
            refine SW.r rfl (.inl rfl) rfl (by decide) (yr_move rfl rfl) ?_
            refine SW.r rfl (.inl rfl) rfl (by decide) (yr_int rfl rfl rfl (.inl ⟨rfl, wrap_in (by omega)⟩)) ?_
            refine SW.q rfl (.inl rfl) rfl (by decide) (yq_idx (k := ((j * n) + j)) rfl Try.underlying23 sz26_Solve rfl rfl zz0 zz2 zz5 (by omega)) ?_
            refine SW.q rfl (.inl rfl) rfl (by decide) (yq_loadF rfl fb26_Solve rfl zz0 (by omega)) ?_
            refine SW.r rfl (.inl rfl) rfl (by decide) (yr_float rfl (.inr (.inr (.inr rfl))) rfl rfl) ?_
            refine SW.q rfl (.inl rfl) rfl (by decide) (yq_idx (k := j) rfl Try.underlying23 sz26_Solve rfl rfl zz0 zz2 zz5 (by omega)) ?_
            refine SW.s rfl (.inl rfl) rfl (yc_store rfl sz26_Solve rfl rfl zz6 (.inl ⟨rfl, rfl⟩) rfl (by rw [fl_length]; omega) (by decide) (fl_set _ _ _)) ?_
            rintro ⟨⟩
            refine SW.done ?_
            refine VE.block_normal ?_
            refine VE.then_wp ?_
            refine V.region ?_
            refine VL.r (.inl rfl) rfl (by decide) (yr_int rfl rfl rfl (.inl ⟨rfl, wrap_in (by omega)⟩)) ?_
            refine VL.r (.inl rfl) rfl (by decide) (yr_move rfl rfl) ?_
            refine VL.nil ?_
            refine VE.round (j + 1, z.set j (fop .quo .f32 (z.getD j 0) (l.getD (j * n + j) 0))) ?_ ?_ ?_ ?_ ?_
            · exact (.cons rfl .nil)
            · exact (.cons rfl (.cons rfl (.cons rfl (.cons rfl .nil))))
            · exact (fun w hw => hw)
            · obtain rfl : k = j := by omega
              refine ⟨by omega, by simp [hzl], fun t ht => ?_⟩
              rw [gset (by omega), fwdF]
              split
              · rw [hz k (by omega), if_pos rfl]
              · rw [hz t ht, if_neg (by assumption)]
            · (try dsimp only); omega
        · skip
          replace h6 := ic_lss' h6
          refine V.exit ?_
          refine VE.then_exit ?_
          refine VE.then_exit ?_
          refine VE.block_here ?_
          refine VE.then_wp ?_
          refine V.seq ?_
          refine V.seq ?_
          refine V.region ?_
          refine VL.r (.inl rfl) rfl (by decide) (yr_move rfl rfl) ?_
          refine VL.r (.inl rfl) rfl (by decide) (yr_int rfl rfl rfl (.inr (.inl ⟨rfl, wrap_in (by omega)⟩))) ?_
          refine VL.r (.inl rfl) rfl (by decide) (yr_assign rfl rfl) ?_
          refine VL.nil ?_
          refine VE.then_wp ?_
          refine V.block ?_
          refine V.loopc (G := Nat × (List Nat)) [(0, _), (6, _), (9, _)] (fun ⟨j1, x⟩ => j1 ≤ n ∧ x.length = n ∧ ∀ t, t < n → x.getD t 0 = bwdF l n (fwdF l n bs n) (n - j1) t) (fun ⟨j1, x⟩ => [⟨a42, fl x, c42 * 1, 26⟩]) (fun ⟨j1, x⟩ => [(12, .int .i64 ((j1 : Int) - 1))]) (fun ⟨j1, x⟩ => j1) (n, x) (.cons rfl (.cons rfl (.cons rfl .nil))) (.cons rfl .nil) ?_ ?_ ?_
          · exact (fun w hw => hw)
          · exact (by obtain rfl : n = j := (by omega); exact ⟨by omega, by omega, fun t h => by rw [hx t h, Nat.sub_self]; rfl⟩)
          rintro ⟨j1, x⟩ ⟨hj1, hxl, hx⟩
          show V _ _ _ [⟨a42, fl x, c42 * 1, 26⟩] ([(12, .int .i64 ((j1 : Int) - 1))] ++ [(0, _), (6, _), (9, _)]) _ _
          refine V.seq ?_
          refine V.seq ?_
          refine V.region ?_
          refine VL.r (.inl rfl) rfl (by decide) (yr_move rfl rfl) ?_
          refine VL.r (.inl rfl) rfl (by decide) (yr_icmp rfl (.inr (.inr (.inr (.inr (.inr rfl))))) rfl rfl) ?_
          refine VL.nil ?_
          refine VE.then_wp ?_
          refine V.cond rfl (fun h8 => ?_) (fun h8 => ?_)
          · skip
            replace h8 := ic_geq h8
            refine V.skip ?_
            refine VE.then_wp ?_
            refine V.seq ?_
            refine V.block ?_
            refine V.seq ?_
            refine V.seq ?_
            refine V.region ?_
            refine VL.r (.inl rfl) rfl (by decide) (yr_move rfl rfl) ?_
            refine VL.r (.inl rfl) rfl (by decide) (yr_int rfl rfl rfl (.inl ⟨rfl, wrap_in (by omega)⟩)) ?_
            refine VL.r (.inl rfl) rfl (by decide) (yr_assign rfl rfl) ?_
            refine VL.nil ?_
            refine VE.then_wp ?_
            refine V.block ?_
            refine V.loopc (G := Nat × (List Nat)) [(0, _), (6, _), (9, _), (12, _)] (fun ⟨k, z⟩ => j1 + k ≤ n ∧ z.length = n ∧ ∀ t, t < n → z.getD t 0 = if t = j1 - 1 then bwdS l n (j1 - 1) (bwdF l n (fwdF l n bs n) (n - j1)) (fwdF l n bs n (j1 - 1)) k else bwdF l n (fwdF l n bs n) (n - j1) t) (fun ⟨k, z⟩ => [⟨a42, fl z, c42 * 1, 26⟩]) (fun ⟨k, z⟩ => [(13, .int .i64 ((j1 + k : Nat) : Int))]) (fun ⟨k, z⟩ => n - (j1 + k)) (0, x) (.cons rfl (.cons rfl (.cons rfl (.cons rfl .nil)))) (.cons (congrArg (fun i => some (Value.int .i64 i)) (by omega)) .nil) ?_ ?_ ?_
            · exact (fun w hw => hw)
            · exact (by exact ⟨by omega, hxl, fun t h => by rw [hx t h]; split <;> first | rfl | (rename_i e; subst e; rw [bwdS, bwdF_lt _ _ _ _ _ (by omega)])⟩)
            rintro ⟨k, z⟩ ⟨hk, hzl, hz⟩
            show V _ _ _ [⟨a42, fl z, c42 * 1, 26⟩] ([(13, .int .i64 ((j1 + k : Nat) : Int))] ++ [(0, _), (6, _), (9, _), (12, _)]) _ _
            have hjj : (j1 - 1) * n + (j1 - 1) < n * n := hix (by omega) (by omega)
            have hjk : j1 + k < n → (j1 + k) * n + (j1 - 1) < n * n := fun h => hix h (by omega)
            refine V.seq ?_
            refine V.seq ?_
            refine V.region ?_
            refine VL.r (.inl rfl) rfl (by decide) (yr_move rfl rfl) ?_
            refine VL.r (.inl rfl) rfl (by decide) (yr_move rfl rfl) ?_
            refine VL.r (.inl rfl) rfl (by decide) (yr_icmp rfl (.inr (.inr (.inl rfl))) rfl rfl) ?_
            refine VL.nil ?_
            refine VE.then_wp ?_
            refine V.cond rfl (fun h9 => ?_) (fun h9 => ?_)
            · skip
              replace h9 := ic_lss h9
              refine V.skip ?_
              refine VE.then_wp ?_
              refine V.seq ?_
              refine V.block ?_
              refine V.draw [(0, 0), (1, 0), (2, 0), (3, 0), (4, 0), (5, 0), (6, 0), (7, 0), (8, 0), (9, 0), (10, 0), (11, 0), (12, 0), (13, 0), (14, 0), (15, 0), (16, 0), (17, 0), (18, 0), (19, 0), (20, 0), (21, 3)] mixed_Solve (by kernel_rfl) (by intro j o hj; simp at hj) ?_
              refine SW.r rfl (.inl rfl) rfl (by decide) (yr_move rfl rfl) ?_
              refine SW.r rfl (.inl rfl) rfl (by decide) (yr_move rfl rfl) ?_
              refine SW.r rfl (.inl rfl) rfl (by decide) (yr_move rfl rfl) ?_
              refine SW.r rfl (.inl rfl) rfl (by decide) (yr_move rfl rfl) ?_
              refine SW.q rfl (.inl rfl) rfl (by decide) (yq_idx (k := (j1 - 1)) rfl Try.underlying23 sz26_Solve rfl rfl zz0 zz2 zz5 (by omega)) ?_
              refine SW.q rfl (.inl rfl) rfl (by decide) (yq_loadF rfl fb26_Solve rfl zz0 (by omega)) ?_
              refine SW.r rfl (.inl rfl) rfl (by decide) (yr_move rfl rfl) ?_
              refine SW.r rfl (.inl rfl) rfl (by decide) (yr_move rfl rfl) ?_
              refine SW.r rfl (.inl rfl) rfl (by decide) (yr_move rfl rfl) ?_
              refine SW.r rfl (.inl rfl) rfl (by decide) (yr_mulN (j1 + k) n rfl rfl rfl (by omega) (by omega) (Nat.le_trans (mul_small (by omega) (by omega)) (by decide))) ?_
              refine SW.r rfl (.inl rfl) rfl (by decide) (yr_move rfl rfl) ?_
              refine SW.r rfl (.inl rfl) rfl (by decide) (yr_int rfl rfl rfl (.inl ⟨rfl, wrap_in (by omega)⟩)) ?_
              refine SW.q rfl (.inl rfl) rfl (by decide) (yq_idx (k := (((j1 + k) * n) + (j1 - 1))) rfl Try.underlying23 sz26_Solve rfl rfl zz0 zz2 zz5 (by omega)) ?_
              refine SW.q rfl (.inl rfl) rfl (by decide) (yq_loadF rfl fb26_Solve rfl zz0 (by omega)) ?_
              refine SW.r rfl (.inl rfl) rfl (by decide) (yr_move rfl rfl) ?_
              refine SW.r rfl (.inl rfl) rfl (by decide) (yr_move rfl rfl) ?_
              refine SW.q rfl (.inl rfl) rfl (by decide) (yq_idx (k := (j1 + k)) rfl Try.underlying23 sz26_Solve rfl rfl zz0 zz2 zz5 (by omega)) ?_
              refine SW.q rfl (.inl rfl) rfl (by decide) (yq_loadF rfl fb26_Solve rfl zz0 (by omega)) ?_
              refine SW.r rfl (.inl rfl) rfl (by decide) (yr_float rfl (.inr (.inr (.inl rfl))) rfl rfl) ?_
              refine SW.r rfl (.inl rfl) rfl (by decide) (yr_float rfl (.inr (.inl rfl)) rfl rfl) ?_
              refine SW.q rfl (.inl rfl) rfl (by decide) (yq_idx (k := (j1 - 1)) rfl Try.underlying23 sz26_Solve rfl rfl zz0 zz2 zz5 (by omega)) ?_
              refine SW.s rfl (.inl rfl) rfl (yc_store rfl sz26_Solve rfl rfl zz6 (.inl ⟨rfl, rfl⟩) rfl (by rw [fl_length]; omega) (by decide) (fl_set _ _ _)) ?_
              rintro ⟨⟩
              refine SW.done ?_
              refine VE.block_normal ?_
              refine VE.then_wp ?_
              refine V.region ?_
              refine VL.r (.inl rfl) rfl (by decide) (yr_move rfl rfl) ?_
              refine VL.r (.inl rfl) rfl (by decide) (yr_int rfl rfl rfl (.inl ⟨rfl, wrap_in (by omega)⟩)) ?_
              refine VL.r (.inl rfl) rfl (by decide) (yr_assign rfl rfl) ?_
              refine VL.nil ?_
              refine VE.round (k + 1, z.set (j1 - 1) (fop .sub .f32 (z.getD (j1 - 1) 0) (fop .mul .f32 (l.getD ((j1 + k) * n + (j1 - 1)) 0) (z.getD (j1 + k) 0)))) ?_ ?_ ?_ ?_ ?_
              · exact (.cons (congrArg (fun i => some (Value.int .i64 i)) (by omega)) .nil)
              · exact (.cons rfl (.cons rfl (.cons rfl (.cons rfl .nil))))
              · exact (fun w hw => hw)
              · refine ⟨by omega, by simp [hzl], fun t ht => ?_⟩
                rw [gset (by omega)]
                split
                · rw [hz (j1 - 1) (by omega), if_pos rfl, hz (j1 + k) (by omega), if_neg (by omega), bwdS, show j1 - 1 + 1 + k = j1 + k by omega]
                · rw [hz t ht, if_neg (by assumption)]
              · (try dsimp only); omega
            · skip
              replace h9 := ic_lss' h9
              refine V.exit ?_
              refine VE.then_exit ?_
              refine VE.then_exit ?_
              refine VE.block_here ?_
              refine VE.then_wp ?_
              refine V.draw [(0, 0), (1, 0), (2, 0), (3, 0), (4, 0), (5, 0), (6, 0), (7, 0), (8, 0), (9, 0), (10, 0), (11, 0), (12, 0), (13, 0), (14, 0), (15, 0), (16, 3)] mixed_Solve (by kernel_rfl) (by intro j o hj; simp at hj) ?_
              refine SW.r rfl (.inl rfl) rfl (by decide) (yr_move rfl rfl) ?_
              refine SW.r rfl (.inl rfl) rfl (by decide) (yr_move rfl rfl) ?_
              refine SW.r rfl (.inl rfl) rfl (by decide) (yr_move rfl rfl) ?_
              refine SW.r rfl (.inl rfl) rfl (by decide) (yr_move rfl rfl) ?_
              refine SW.q rfl (.inl rfl) rfl (by decide) (yq_idx (k := (j1 - 1)) rfl Try.underlying23 sz26_Solve rfl rfl zz0 zz2 zz5 (by omega)) ?_
              refine SW.q rfl (.inl rfl) rfl (by decide) (yq_loadF rfl fb26_Solve rfl zz0 (by omega)) ?_
              refine SW.r rfl (.inl rfl) rfl (by decide) (yr_move rfl rfl) ?_
              refine SW.r rfl (.inl rfl) rfl (by decide) (yr_move rfl rfl) ?_
              refine SW.r rfl (.inl rfl) rfl (by decide) (yr_move rfl rfl) ?_
              refine SW.r rfl (.inl rfl) rfl (by decide) (yr_mulN (j1 - 1) n rfl rfl rfl (by omega) (by omega) (Nat.le_trans (mul_small (by omega) (by omega)) (by decide))) ?_
              refine SW.r rfl (.inl rfl) rfl (by decide) (yr_move rfl rfl) ?_
              refine SW.r rfl (.inl rfl) rfl (by decide) (yr_int rfl rfl rfl (.inl ⟨rfl, wrap_in (by omega)⟩)) ?_
              refine SW.q rfl (.inl rfl) rfl (by decide) (yq_idx (k := (((j1 - 1) * n) + (j1 - 1))) rfl Try.underlying23 sz26_Solve rfl rfl zz0 zz2 zz5 (by omega)) ?_
              refine SW.q rfl (.inl rfl) rfl (by decide) (yq_loadF rfl fb26_Solve rfl zz0 (by omega)) ?_
              refine SW.r rfl (.inl rfl) rfl (by decide) (yr_float rfl (.inr (.inr (.inr rfl))) rfl rfl) ?_
              refine SW.q rfl (.inl rfl) rfl (by decide) (yq_idx (k := (j1 - 1)) rfl Try.underlying23 sz26_Solve rfl rfl zz0 zz2 zz5 (by omega)) ?_
              refine SW.s rfl (.inl rfl) rfl (yc_store rfl sz26_Solve rfl rfl zz6 (.inl ⟨rfl, rfl⟩) rfl (by rw [fl_length]; omega) (by decide) (fl_set _ _ _)) ?_
              rintro ⟨⟩
              refine SW.done ?_
              refine VE.block_normal ?_
              refine VE.then_wp ?_
              refine V.region ?_
              refine VL.r (.inl rfl) rfl (by decide) (yr_move rfl rfl) ?_
              refine VL.r (.inl rfl) rfl (by decide) (yr_int rfl rfl rfl (.inr (.inl ⟨rfl, wrap_in (by omega)⟩))) ?_
              refine VL.r (.inl rfl) rfl (by decide) (yr_assign rfl rfl) ?_
              refine VL.nil ?_
              refine VE.round (j1 - 1, z.set (j1 - 1) (fop .quo .f32 (z.getD (j1 - 1) 0) (l.getD ((j1 - 1) * n + (j1 - 1)) 0))) ?_ ?_ ?_ ?_ ?_
              · exact (.cons (congrArg (fun i => some (Value.int .i64 i)) (by omega)) .nil)
              · exact (.cons rfl (.cons rfl (.cons rfl .nil)))
              · exact (fun w hw => hw)
              · obtain ⟨j0, rfl⟩ : ∃ j0, j1 = j0 + 1 := ⟨j1 - 1, by omega⟩
                obtain rfl : k = n - (j0 + 1) := by omega
                simp only [Nat.add_sub_cancel] at hz ⊢
                refine ⟨by omega, by simp [hzl], fun t h2 => ?_⟩
                rw [gset (by omega), bwdF_succ l n _ (by omega)]
                split
                · rw [hz j0 (by omega), if_pos rfl]
                · rw [hz t h2, if_neg (by assumption)]
              · (try dsimp only); omega
          · skip
            replace h8 := ic_geq' h8
            refine V.exit ?_
            refine VE.then_exit ?_
            refine VE.then_exit ?_
            refine VE.block_here ?_
            refine VE.then_wp ?_
            refine V.seq ?_
            refine V.region ?_
            refine VL.r (.inl rfl) rfl (by decide) (yr_move rfl rfl) ?_
            refine VL.r (.inl rfl) rfl (by decide) (yr_assign rfl rfl) ?_
            refine VL.r (.inl rfl) rfl (by decide) (yr_assign (u := .bool true) rfl rfl) ?_
            refine VL.nil ?_
            refine VE.then_wp ?_
            refine V.ret ?_
            refine ret2 rfl rfl rfl (by nofun) (by nofun) (fun w1 hw => ?_)
            obtain rfl : j1 = 0 := by omega
            have hs : solveOk l bs = true := ok_yes (by rw [← hn]; omega) (by rw [← hn]; omega) (by rw [← hn]; exact fun t ht => hc t (by omega))
            have hso : solveOf l bs = solve l bs n := by rw [solveOf_yes hs, ← hn]
            have hxs : x = solve l bs n := by
              refine ext_getD (by rw [hxl, solve_length]) fun i hi => ?_
              rw [hx i (by omega)]
              unfold solve
              rw [getD_range _ _ (by omega)]
              rfl
            subst hxs
            exact ⟨(a42, c42), by rw [hso, hs, solve_length, show bs.length = n by omega], by rw [hso]; exact hw.out1⟩
end Go.Proofs.Ytgeflnjjppgooaa.Q

namespace Go.Proofs.Ytgeflnjjppgooaa
open Go.RowKit
theorem fin_num {x : Nat} (h : fin x = true) : fnan .f32 x = false := by
  cases hn : fnan .f32 x
  · rfl
  · exfalso
    have h1 : fop .sub .f32 x x = qn .f32 := by simp [fop, floatBits_nan_left hn]
    unfold fin at h
    rw [h1] at h
    revert h
    decide
theorem order_some {x y : Nat} (hx : fnan .f32 x = false) (hy : fnan .f32 y = false) : ∃ o, FloatKind.f32.format.order x y = some o := by
  have h1 := read_num hx
  have h2 := read_num hy
  unfold Ieee.Format.order
  generalize FloatKind.f32.format.read x = a at h1 ⊢
  generalize FloatKind.f32.format.read y = b at h2 ⊢
  cases a <;> cases b <;> simp [Ieee.Datum.isNaN, Ieee.Datum.order] at h1 h2 ⊢
theorem lss_geq {x : Nat} (h : fin x = true) : fcmp .lss .f32 x 0 = !fcmp .geq .f32 x 0 := by
  obtain ⟨o, ho⟩ := order_some (fin_num h) (show fnan .f32 0 = false by decide)
  simp only [fcmp, ho]
  cases o <;> rfl
def idxI (p : Nat → Bool) : Nat → Int
  | 0 => -1
  | n + 1 => if 0 ≤ idxI p n then idxI p n else if p n then n else -1
theorem idxI_no {p : Nat → Bool} : ∀ {n : Nat}, (∀ j, j < n → p j = false) → idxI p n = -1
  | 0, _ => rfl
  | n + 1, h => by
    have := idxI_no (n := n) (fun j hj => h j (by omega))
    simp [idxI, this, h n (by omega)]
theorem idxI_of {p : Nat → Bool} {k : Nat} (h : ∀ j, j < k → p j = false) (hk : p k = true) : ∀ {n : Nat}, k < n → idxI p n = k
  | 0, h => by omega
  | n + 1, hn => by
    by_cases e : k = n
    · subst e
      simp [idxI, idxI_no h, hk]
    · have := idxI_of h hk (n := n) (by omega)
      simp [idxI, this]
theorem idxI_any (p : Nat → Bool) : ∀ (n : Nat), decide (0 ≤ idxI p n) = (List.range n).any p
  | 0 => rfl
  | n + 1 => by
    have ih := idxI_any p n
    rw [List.range_succ, List.any_append, ← ih]
    simp only [idxI]
    by_cases h : 0 ≤ idxI p n
    · simp [h]
    · rcases Bool.eq_false_or_eq_true (p n) with hp | hp
      · simp [h, hp]
      · simp [h, hp]
theorem any_list (p : Nat → Bool) (xs : List Nat) : (List.range xs.length).any (fun k => p (xs.getD k 0)) = xs.any p := by
  rw [Bool.eq_iff_iff, List.any_eq_true, List.any_eq_true]
  constructor
  · rintro ⟨k, hk, h⟩
    simp only [List.mem_range] at hk
    exact ⟨_, getD_mem hk, h⟩
  · rintro ⟨x, hx, h⟩
    obtain ⟨k, hk, rfl⟩ := List.getElem_of_mem hx
    exact ⟨k, by simpa using hk, by simpa [List.getD, hk] using h⟩
theorem all_list (p : Nat → Bool) (xs : List Nat) : (!decide (0 ≤ idxI (fun k => !p (xs.getD k 0)) xs.length)) = xs.all p := by
  rw [idxI_any, any_list (fun x => !p x)]
  induction xs with
  | nil => rfl
  | cons x xs ih => simp only [List.any_cons, List.all_cons, Bool.not_or, Bool.not_not, ih]
theorem all_getD {p : Nat → Bool} {xs : List Nat} : xs.all p = true ↔ ∀ k, k < xs.length → p (xs.getD k 0) = true := by
  rw [List.all_eq_true]
  constructor
  · intro h k hk
    exact h _ (getD_mem hk)
  · intro h x hx
    obtain ⟨k, hk, rfl⟩ := List.getElem_of_mem hx
    have := h k hk
    simpa [List.getD, hk] using this
theorem all_no {p : Nat → Bool} {xs : List Nat} {k : Nat} (hk : k < xs.length) (h : p (xs.getD k 0) = false) : xs.all p = false := by
  rw [Bool.eq_false_iff]
  intro ha
  rw [all_getD.1 ha k hk] at h
  cases h
theorem idxI_t {p : Nat → Bool} {n : Nat} (h : decide (0 ≤ idxI p n) = true) : ∃ k, k < n ∧ p k = true := by
  rw [idxI_any, List.any_eq_true] at h
  obtain ⟨k, hk, h⟩ := h
  exact ⟨k, by simpa using hk, h⟩
theorem idxI_f {p : Nat → Bool} {n : Nat} (h : decide (0 ≤ idxI p n) = false) : ∀ k, k < n → p k = false := by
  intro k hk
  cases hp : p k
  · rfl
  · rw [idxI_any, List.any_eq_false] at h
    exact absurd hp (h k (by simpa using hk))
theorem szOf_le {left : Int} (h : 0 ≤ left) (m : Nat) : szOf left m ≤ left := by unfold szOf; split <;> omega
theorem szOf_neg {left : Int} {m m' : Nat} (h : szOf left m < 0) (hm : m ≤ m') : szOf left m' = -1 := by
  unfold szOf at *
  split at h
  · rw [if_pos (by omega)]
  · omega
theorem szOf_add {left : Int} {m k : Nat} (h : 0 ≤ szOf left m) : szOf (szOf left m) k = szOf left (m + k) := by
  have : ¬ left < m := by intro g; rw [szOf, if_pos g] at h; omega
  have e : szOf left m = left - m := by rw [szOf, if_neg this]
  rw [e]
  unfold szOf
  split <;> split <;> omega
theorem szOf_fits {m : Nat} (h : 0 ≤ szOf 1048576 m) : m ≤ 1048576 := by
  apply Classical.byContradiction
  intro g
  rw [szOf, if_pos (by omega)] at h
  omega
theorem icmp_eqN (a b : Nat) : icmp .eql (a : Int) (b : Int) = decide (a = b) := by
  rw [Bool.eq_iff_iff]
  constructor
  · intro h; have := ic_eql h; rw [decide_eq_true_eq]; omega
  · intro h; rw [decide_eq_true_eq] at h; subst h; simp [icmp]
def rowOk (xs : List Nat) (n : Nat) : Bool := xs.all fin && decide (xs.length = n)
def ValidP (xss : List (List Nat)) (ws gs : List Nat) : Prop :=
  1 ≤ xss.length ∧ xss.length ≤ 48 ∧ gs.length = xss.length ∧ ws.length = xss.length ∧ ws.all fin = true ∧
  (∀ i, i < xss.length → (xss.getD i []).length = (xss.getD 0 []).length ∧ (xss.getD i []).all fin = true ∧ least (gs.getD i 0) = true) ∧ 1 ≤ (xss.getD 0 []).length ∧ (xss.getD 0 []).length ≤ 8
noncomputable def validD (xss : List (List Nat)) (ws gs : List Nat) : Bool := @decide (ValidP xss ws gs) (Classical.propDecidable _)
theorem valid_yes {xss : List (List Nat)} {ws gs : List Nat} (h : ValidP xss ws gs) : validD xss ws gs = true := by
  unfold validD; exact @decide_eq_true _ (Classical.propDecidable _) h
theorem valid_no {xss : List (List Nat)} {ws gs : List Nat} (h : ¬ ValidP xss ws gs) : validD xss ws gs = false := by
  unfold validD; exact @decide_eq_false _ (Classical.propDecidable _) h
theorem valid_is {xss : List (List Nat)} {ws gs : List Nat} (h : validD xss ws gs = true) : ValidP xss ws gs := by
  unfold validD at h; exact @of_decide_eq_true _ (Classical.propDecidable _) h
theorem rowOk_t {xs : List Nat} {n : Nat} (h : rowOk xs n = true) : xs.length = n ∧ xs.all fin = true := by
  unfold rowOk at h
  simp only [Bool.and_eq_true, decide_eq_true_eq] at h
  exact ⟨h.2, h.1⟩
theorem rowOk_f {xs : List Nat} {n : Nat} (h : rowOk xs n = false) : ¬ (xs.length = n ∧ xs.all fin = true) := by
  rintro ⟨h1, h2⟩
  rw [rowOk, h2, decide_eq_true h1] at h
  cases h
section
variable {P : Program} {n : Nat} {w0 : World} {O : List Ent} {E : Env} {o : Oper}
end
end Go.Proofs.Ytgeflnjjppgooaa

namespace Go.Proofs.Ytgeflnjjppgooaa.Q
open Go.RowKit
section
variable {P : Program} {n : Nat} {w0 : World} {O : List Ent} {E : Env} {o : Oper}
theorem yq_loadH [PhC] {t : TypeId} {x : Operand} {a : Option Addr} {k : Nat} {f : Nat → Option Addr × Nat} {xss : List (List Nat)} (ho : o.op = .load t x) (ht : flatB P t = true) (hx : E.opd x = some (.pointer (some (adr a k)))) (hs : Sees w0 O a (hd f xss)) (hk : k < xss.length) : YQ P w0 O E o (.slice (f k).1 (xss.getD k []).length (f k).2) :=
  yq_load ho ht hx hs (hd_get hk)
theorem retC [PhC] {fn : Func} {R : Value → World → Prop} {r : ResultVar} {u : Value} (hr : fn.results = #[r]) (h : RV n P w0 O E r u) (hn : ∀ z, u ≠ .tuple z) (hk : ∀ w, Hp w0 O w → R u w) : VE n w0 O E (Ends P fn R) .ret := by
  intro a w ha hw
  refine ⟨ha.defers, fun w1 hx => ?_⟩
  obtain ⟨vs, h1, h2⟩ := run_results (rs := [r]) hr (.cons h .nil) ha (hw.ext hx)
  match vs, h2 with
  | [v], h2 =>
    simp only [List.map_cons, List.map_nil, List.cons.injEq, and_true] at h2
    refine ⟨_, h1, v, rfl, ?_⟩
    have : cn v = u := by
      rw [← h2] at hn ⊢
      cases v <;> first | rfl | exact absurd rfl (hn _)
    rw [this]; exact hk w hw
end
end Go.Proofs.Ytgeflnjjppgooaa.Q

namespace Go.Proofs.Ytgeflnjjppgooaa.Q
open Go.RowKit
section
variable {P : Program} {n : Nat} {w0 : World} {O : List Ent} {E : Env} {o : Oper}
/-- A function value with captured pointers. -/
theorem yr_func1 [PhC] {f : Fn} {c : Operand} {p : Option Addr} (ho : o.op = .makeFunc f #[] #[c]) (hc : E.opd c = some (.pointer p)) : YR P E o (.func f #[] #[.pointer p]) :=
  yr_func ho (fun ρ hE => by simp [cn_pointer (hE.get (x := c) (by simp [ho, Op.operands]) hc)]) (fun _ => rfl)
end
end Go.Proofs.Ytgeflnjjppgooaa.Q

namespace Go.Proofs.Ytgeflnjjppgooaa.Q
open Go.RowKit
set_option linter.unusedVariables false
set_option linter.unusedSimpArgs false
set_option maxRecDepth 20000
set_option maxHeartbeats 800000
attribute [local irreducible] wqList Wq
theorem sz23_Rows : (Try.prog.info? 23).map (·.size) = some 1 := by kernel_rfl
theorem fb23_Rows : flatB Try.prog 23 = true := by kernel_rfl
theorem known32_Rows : Known Try.prog 32 := Known.mk' Try.func32 (by kernel_rfl)
theorem elt23_Rows : Elt Try.prog 23 [Value.slice none 0 0] 24 := Elt.mk' (by kernel_rfl) (by decide)
theorem known37_Rows : Known Try.prog 37 := Known.mk' Try.func37 (by kernel_rfl)
theorem mixed_Rows : Try.prog.follows .mixedOrders = true := by kernel_rfl
theorem known11_Rows : Known Try.prog 11 := Known.mk' Try.func11 (by kernel_rfl)
theorem sz26_Rows : (Try.prog.info? 26).map (·.size) = some 1 := by kernel_rfl
theorem fb26_Rows : flatB Try.prog 26 = true := by kernel_rfl
theorem known111_Rows : Known Try.prog 111 := Known.mk' Try.func111 (by kernel_rfl)
theorem known92_Rows : Known Try.prog 92 := Known.mk' Try.func92 (by kernel_rfl)
theorem known42_Rows : Known Try.prog 42 := Known.mk' Try.func42 (by kernel_rfl)
theorem known94_Rows : Known Try.prog 94 := Known.mk' Try.func94 (by kernel_rfl)
theorem known93_Rows : Known Try.prog 93 := Known.mk' Try.func93 (by kernel_rfl)
theorem known95_Rows : Known Try.prog 95 := Known.mk' Try.func95 (by kernel_rfl)
theorem known69_Rows : Known Try.prog 69 := Known.mk' Try.func69 (by kernel_rfl)
theorem c_szF [PhC] {w : World} {a : Option Addr} {m c : Nat} {left : Int} (h0 : 0 ≤ left) (h1 : left ≤ 1048576) (hm : m ≤ 9223372036854775807) : Pure Try.prog 32 [.slice a m c, .int .i64 left] w (.int .i64 (szOf left m)) := by
  refine Pure.enter Try.func32 rfl Try.ntmps32 (Nat.le_of_ble_eq_true rfl) ?_
  refine V.seq ?_
  refine V.region ?_
  refine VL.r (.inl rfl) rfl (by decide) (yr_assign (u := .int .i64 0) rfl rfl) ?_
  refine VL.nil ?_
  refine VE.then_wp ?_
  refine V.seq ?_
  refine V.region ?_
  refine VL.r (.inl rfl) rfl (by decide) (yr_move rfl rfl) ?_
  refine VL.r (.inl rfl) rfl (by decide) (yr_move rfl rfl) ?_
  refine VL.r (.inl rfl) rfl (by decide) (yr_len rfl Try.underlying23 rfl) ?_
  refine VL.r (.inl rfl) rfl (by decide) (yr_int rfl rfl rfl (.inr (.inl ⟨rfl, wrap_in (by omega)⟩))) ?_
  refine VL.r (.inl rfl) rfl (by decide) (yr_assign rfl rfl) ?_
  refine VL.nil ?_
  refine VE.then_wp ?_
  refine V.seq ?_
  refine V.seq ?_
  refine V.region ?_
  refine VL.r (.inl rfl) rfl (by decide) (yr_move rfl rfl) ?_
  refine VL.r (.inl rfl) rfl (by decide) (yr_icmp rfl (.inr (.inr (.inl rfl))) rfl rfl) ?_
  refine VL.nil ?_
  refine VE.then_wp ?_
  refine V.cond rfl (fun h1 => ?_) (fun h1 => ?_)
  · skip
    replace h1 := ic_lss h1
    refine V.seq ?_
    refine V.region ?_
    refine VL.r (.inl rfl) rfl (by decide) (yr_assign (u := .int .i64 (-1)) rfl rfl) ?_
    refine VL.nil ?_
    refine VE.then_wp ?_
    refine V.ret ?_
    refine VE.then_ret ?_
    refine ret1 rfl rfl (fun w1 hw => ?_)
    exact ⟨by rw [szOf, if_pos (by omega)], hw.below⟩
  · skip
    replace h1 := ic_lss' h1
    refine V.skip ?_
    refine VE.then_wp ?_
    refine V.seq ?_
    refine V.region ?_
    refine VL.r (.inl rfl) rfl (by decide) (yr_move rfl rfl) ?_
    refine VL.r (.inl rfl) rfl (by decide) (yr_assign rfl rfl) ?_
    refine VL.nil ?_
    refine VE.then_wp ?_
    refine V.ret ?_
    refine ret1 rfl rfl (fun w1 hw => ?_)
    exact ⟨by rw [szOf, if_neg (by omega)], hw.below⟩
theorem c_szFF [PhC] {w : World} {a : Option Addr} {c : Nat} {f : Nat → Option Addr × Nat} {xss : List (List Nat)} {left : Int} (hA : Cl w a (hd f xss)) (h0 : 0 ≤ left) (h1 : left ≤ 1048576) (hm : xss.length ≤ 9223372036854775807) (hr : ∀ i, i < xss.length → (xss.getD i []).length ≤ 9223372036854775807) : Pure Try.prog 31 [.slice a xss.length c, .int .i64 left] w (.int .i64 (szOf left (bulk xss))) := by
  refine Pure.enter Try.func31 rfl Try.ntmps31 (Nat.le_of_ble_eq_true rfl) ?_
  refine V.seq ?_
  refine V.region ?_
  refine VL.r (.inl rfl) rfl (by decide) (yr_assign (u := .int .i64 0) rfl rfl) ?_
  refine VL.nil ?_
  refine VE.then_wp ?_
  refine V.seq ?_
  refine V.region ?_
  refine VL.r (.inl rfl) rfl (by decide) (yr_move rfl rfl) ?_
  refine VL.r (.inl rfl) rfl (by decide) (yr_move rfl rfl) ?_
  refine VL.r (.inl rfl) rfl (by decide) (yr_len rfl Try.underlying22 rfl) ?_
  refine VL.r (.inl rfl) rfl (by decide) (yr_int rfl rfl rfl (.inr (.inl ⟨rfl, wrap_in (by omega)⟩))) ?_
  refine VL.r (.inl rfl) rfl (by decide) (yr_assign rfl rfl) ?_
  refine VL.nil ?_
  refine VE.then_wp ?_
  refine V.seq ?_
  refine V.seq ?_
  refine V.region ?_
  refine VL.r (.inl rfl) rfl (by decide) (yr_move rfl rfl) ?_
  refine VL.r (.inl rfl) rfl (by decide) (yr_icmp rfl (.inr (.inr (.inl rfl))) rfl rfl) ?_
  refine VL.nil ?_
  refine VE.then_wp ?_
  refine V.cond rfl (fun h1 => ?_) (fun h1 => ?_)
  · skip
    replace h1 := ic_lss h1
    refine V.seq ?_
    refine V.region ?_
    refine VL.r (.inl rfl) rfl (by decide) (yr_assign (u := .int .i64 (-1)) rfl rfl) ?_
    refine VL.nil ?_
    refine VE.then_wp ?_
    refine V.ret ?_
    refine VE.then_ret ?_
    refine ret1 rfl rfl (fun w1 hw => ?_)
    exact ⟨by rw [szOf, if_pos (by unfold bulk; omega)], hw.below⟩
  · skip
    replace h1 := ic_lss' h1
    refine V.skip ?_
    refine VE.then_wp ?_
    refine V.seq ?_
    refine V.seq ?_
    refine V.region ?_
    refine VL.r (.inl rfl) rfl (by decide) (yr_assign (u := .int .i64 0) rfl rfl) ?_
    refine VL.nil ?_
    refine VE.then_wp ?_
    refine V.block ?_
    refine V.loops (G := Nat) [(0, _)] (fun (k : Nat) => k ≤ xss.length ∧ 0 ≤ left - (xss.length : Int) - sumK xss k) (fun (k : Nat) => [(1, .int .i64 (left - xss.length - sumK xss k)), (5, .int .i64 (k : Int))]) (fun (k : Nat) => xss.length - k) 0 (.cons rfl .nil) (.cons (congrArg (fun i => some (Value.int .i64 i)) (by rw [sumK_zero]; omega)) (.cons rfl .nil)) ?_ ?_
    · exact (by rw [sumK_zero]; exact ⟨by omega, by omega⟩)
    rintro k ⟨hk, hl⟩
    show V _ _ _ _ ([(1, .int .i64 (left - xss.length - sumK xss k)), (5, .int .i64 (k : Int))] ++ [(0, _)]) _ _
    have hrk := hr k
    refine V.seq ?_
    refine V.seq ?_
    refine V.region ?_
    refine VL.r (.inl rfl) rfl (by decide) (yr_move rfl rfl) ?_
    refine VL.r (.inl rfl) rfl (by decide) (yr_move rfl rfl) ?_
    refine VL.r (.inl rfl) rfl (by decide) (yr_len rfl Try.underlying22 rfl) ?_
    refine VL.r (.inl rfl) rfl (by decide) (yr_icmp rfl (.inr (.inr (.inl rfl))) rfl rfl) ?_
    refine VL.nil ?_
    refine VE.then_wp ?_
    refine V.cond rfl (fun h2 => ?_) (fun h2 => ?_)
    · skip
      replace h2 := ic_lss h2
      refine V.skip ?_
      refine VE.then_wp ?_
      refine V.seq ?_
      refine V.block ?_
      refine V.seq ?_
      refine V.region ?_
      refine VL.r (.inl rfl) rfl (by decide) (yr_move rfl rfl) ?_
      refine VL.r (.inl rfl) rfl (by decide) (yr_move rfl rfl) ?_
      refine VL.q (.inl rfl) rfl (by decide) (yq_idx (k := k) rfl Try.underlying22 sz23_Rows rfl rfl zz0 zz2 (by first | exact fl_length _ | exact hd_length _ _ | simp) (by omega)) ?_
      refine VL.q (.inl rfl) rfl (by decide) (yq_loadH rfl fb23_Rows rfl zz0 (by omega)) ?_
      refine VL.r (.inl rfl) rfl (by decide) (yr_move rfl rfl) ?_
      refine VL.q (.inl rfl) rfl (by decide) (yq_callf rfl known32_Rows (.cons rfl (.cons rfl .nil)) (fun w hw => (c_szF (by omega) (by omega) (by omega)))) ?_
      refine VL.r (.inl rfl) rfl (by decide) (yr_assign rfl rfl) ?_
      refine VL.nil ?_
      refine VE.then_wp ?_
      refine V.seq ?_
      refine V.region ?_
      refine VL.r (.inl rfl) rfl (by decide) (yr_move rfl rfl) ?_
      refine VL.r (.inl rfl) rfl (by decide) (yr_icmp rfl (.inr (.inr (.inl rfl))) rfl rfl) ?_
      refine VL.nil ?_
      refine VE.then_wp ?_
      refine V.cond rfl (fun h3 => ?_) (fun h3 => ?_)
      · skip
        replace h3 := ic_lss h3
        refine V.seq ?_
        refine V.region ?_
        refine VL.r (.inl rfl) rfl (by decide) (yr_assign (u := .int .i64 (-1)) rfl rfl) ?_
        refine VL.nil ?_
        refine VE.then_wp ?_
        refine V.ret ?_
        refine VE.block_ret ?_
        refine VE.then_ret ?_
        refine VE.then_ret ?_
        refine VE.block_ret ?_
        refine VE.then_ret ?_
        refine ret1 rfl rfl (fun w1 hw => ?_)
        have hs : left - (xss.length : Int) - sumK xss k < (xss.getD k []).length := by
          apply Classical.byContradiction
          intro h; rw [szOf, if_neg h] at *; omega
        have hb := bulk_row (xss := xss) (k := k) (by omega)
        have hmono := sumK_mono xss (k + 1) xss.length (by omega) (Nat.le_refl _)
        rw [sumK_succ (by omega)] at hmono
        exact ⟨by rw [szOf, if_pos (by unfold bulk; omega)], hw.below⟩
      · skip
        replace h3 := ic_lss' h3
        refine V.skip ?_
        refine VE.block_normal ?_
        refine VE.then_wp ?_
        refine V.region ?_
        refine VL.r (.inl rfl) rfl (by decide) (yr_move rfl rfl) ?_
        refine VL.r (.inl rfl) rfl (by decide) (yr_int rfl rfl rfl (.inl ⟨rfl, wrap_in (by omega)⟩)) ?_
        refine VL.r (.inl rfl) rfl (by decide) (yr_assign rfl rfl) ?_
        refine VL.nil ?_
        refine VE.round (k + 1) ?_ ?_ ?_ ?_ ?_
        · exact (.cons (congrArg (fun i => some (Value.int .i64 i)) (by rw [szOf, if_neg (by intro h; rw [szOf, if_pos h] at *; omega), sumK_succ (by omega)]; omega)) (.cons rfl .nil))
        · exact (.cons rfl .nil)
        · exact (fun w hw => hw)
        · have hs : ¬ (left - (xss.length : Int) - sumK xss k < (xss.getD k []).length) := by
            intro h; rw [szOf, if_pos h] at *; omega
          exact ⟨by omega, by rw [sumK_succ (by omega)]; omega⟩
        · (try dsimp only); omega
    · skip
      replace h2 := ic_lss' h2
      refine V.exit ?_
      refine VE.then_exit ?_
      refine VE.then_exit ?_
      refine VE.block_here ?_
      refine VE.then_wp ?_
      refine V.seq ?_
      refine V.region ?_
      refine VL.r (.inl rfl) rfl (by decide) (yr_move rfl rfl) ?_
      refine VL.r (.inl rfl) rfl (by decide) (yr_assign rfl rfl) ?_
      refine VL.nil ?_
      refine VE.then_wp ?_
      refine V.ret ?_
      refine ret1 rfl rfl (fun w1 hw => ?_)
      obtain rfl : k = xss.length := by omega
      exact ⟨by rw [szOf, if_neg (by unfold bulk; omega)]; unfold bulk; congr 1; omega, hw.below⟩
theorem c_toFF [PhC] {w : World} {a : Option Addr} {c : Nat} {f : Nat → Option Addr × Nat} {xss : List (List Nat)} (hA : Cl w a (hd f xss)) (hR : Rws w f xss) (hn : xss.length ≤ 1050000) (hr : ∀ i, i < xss.length → (xss.getD i []).length ≤ 1050000) : New Try.prog 36 [.slice a xss.length c] w (fun p : Nat × (Nat → Option Addr × Nat) => .slice (some ⟨p.1, 0, none⟩) xss.length xss.length) (fun p => ⟨some ⟨p.1, 0, none⟩, hd p.2 xss, xss.length * 1, 23⟩ :: rents 26 p.2 xss) := by
  refine New.enter Try.func36 rfl Try.ntmps36 (Nat.le_of_ble_eq_true rfl) ?_
  refine V.seq ?_
  refine V.region ?_
  refine VL.r (.inl rfl) rfl (by decide) (yr_assign (u := .slice none 0 0) rfl rfl) ?_
  refine VL.nil ?_
  refine VE.then_wp ?_
  refine V.seq ?_
  refine V.region ?_
  refine VL.r (.inl rfl) rfl (by decide) (yr_move rfl rfl) ?_
  refine VL.r (.inl rfl) rfl (by decide) (yr_len rfl Try.underlying22 rfl) ?_
  refine VL.new1 (.inl rfl) rfl (by decide) (yn_makeSlicez 1 rfl rfl Try.underlying22 elt23_Rows rfl rfl rfl (by omega) (by omega)) ?_
  intro b7
  refine VL.r (.inl rfl) rfl (by decide) (yr_assign rfl rfl) ?_
  refine VL.nil ?_
  refine VE.then_wp ?_
  refine V.seq ?_
  refine V.seq ?_
  refine V.region ?_
  refine VL.r (.inl rfl) rfl (by decide) (yr_assign (u := .int .i64 0) rfl rfl) ?_
  refine VL.nil ?_
  refine VE.then_wp ?_
  refine V.block ?_
  refine V.loopc (G := Nat × (Nat → Option Addr × Nat)) [(0, _), (3, _)] (fun ⟨k, g⟩ => k ≤ xss.length) (fun ⟨k, g⟩ => (⟨some ⟨b7, 0, none⟩, hdk g xss k, xss.length * 1, 23⟩ :: rents 26 g (xss.take k))) (fun ⟨k, g⟩ => [(4, .int .i64 (k : Int))]) (fun ⟨k, g⟩ => xss.length - k) (0, fun _ => (none, 0)) (.cons rfl (.cons rfl .nil)) (.cons rfl .nil) ?_ ?_ ?_
  · exact (fun w hw => by rw [cycle_nils, ← hdk_zero (fun _ => (none, 0)) xss] at hw; exact hw)
  · exact (by omega)
  rintro ⟨k, g⟩ hk
  show V _ _ _ (⟨some ⟨b7, 0, none⟩, hdk g xss k, xss.length * 1, 23⟩ :: rents 26 g (xss.take k)) ([(4, .int .i64 (k : Int))] ++ [(0, _), (3, _)]) _ _
  refine V.seq ?_
  refine V.seq ?_
  refine V.region ?_
  refine VL.r (.inl rfl) rfl (by decide) (yr_move rfl rfl) ?_
  refine VL.r (.inl rfl) rfl (by decide) (yr_move rfl rfl) ?_
  refine VL.r (.inl rfl) rfl (by decide) (yr_len rfl Try.underlying22 rfl) ?_
  refine VL.r (.inl rfl) rfl (by decide) (yr_icmp rfl (.inr (.inr (.inl rfl))) rfl rfl) ?_
  refine VL.nil ?_
  refine VE.then_wp ?_
  refine V.cond rfl (fun h1 => ?_) (fun h1 => ?_)
  · skip
    replace h1 := ic_lss h1
    refine V.skip ?_
    refine VE.then_wp ?_
    refine V.seq ?_
    refine V.block ?_
    refine V.region ?_
    refine VL.r (.inl rfl) rfl (by decide) (yr_move rfl rfl) ?_
    refine VL.r (.inl rfl) rfl (by decide) (yr_move rfl rfl) ?_
    refine VL.r (.inl rfl) rfl (by decide) (yr_move rfl rfl) ?_
    refine VL.r (.inl rfl) rfl (by decide) (yr_move rfl rfl) ?_
    refine VL.q (.inl rfl) rfl (by decide) (yq_idx (k := k) rfl Try.underlying22 sz23_Rows rfl rfl zz0 zz2 (by first | exact hd_length _ _ | (rw [hdk_length (by omega)])) (by omega)) ?_
    refine VL.q (.inl rfl) rfl (by decide) (yq_loadH rfl fb23_Rows rfl zz0 (by omega)) ?_
    refine VL.new1 (.inl rfl) rfl (by decide) (yn_callf rfl known37_Rows (.cons rfl .nil) (fun w hw => c_toF (hR.root hw k (by omega)) (hr k (by omega)))) ?_
    rintro ⟨a20, c20⟩
    refine VL.q (.inl rfl) rfl (by decide) (yq_idx (k := k) rfl Try.underlying22 sz23_Rows rfl rfl zz0 zz2 (by first | exact hd_length _ _ | (rw [hdk_length (by omega)])) (by omega)) ?_
    refine VL.s (.inl rfl) rfl (yc_store rfl sz23_Rows rfl rfl zz6 (.inl ⟨rfl, rfl⟩) rfl (by rw [hdk_length (by omega)]; omega) (by decide) (hdk_set (by omega) (a20, c20))) ?_
    rintro ⟨⟩
    refine VL.nil ?_
    refine VE.block_normal ?_
    refine VE.then_wp ?_
    refine V.region ?_
    refine VL.r (.inl rfl) rfl (by decide) (yr_move rfl rfl) ?_
    refine VL.r (.inl rfl) rfl (by decide) (yr_int rfl rfl rfl (.inl ⟨rfl, wrap_in (by omega)⟩)) ?_
    refine VL.r (.inl rfl) rfl (by decide) (yr_assign rfl rfl) ?_
    refine VL.nil ?_
    refine VE.round (k + 1, upd g k (a20, c20)) ?_ ?_ ?_ ?_ ?_
    · exact (.cons rfl .nil)
    · exact (.cons rfl (.cons rfl .nil))
    · exact (fun w hw => by show Hp _ (_ :: rents _ (upd g k (a20, c20)) (xss.take (k + 1))) w; rw [← rents_take (by omega)]; exact hw.perm' ((List.Perm.swap _ _ _).trans (List.Perm.cons _ (List.perm_append_comm (l₁ := [_])))))
    · omega
    · (try dsimp only); omega
  · skip
    replace h1 := ic_lss' h1
    refine V.exit ?_
    refine VE.then_exit ?_
    refine VE.then_exit ?_
    refine VE.block_here ?_
    refine VE.then_wp ?_
    refine V.seq ?_
    refine V.region ?_
    refine VL.r (.inl rfl) rfl (by decide) (yr_move rfl rfl) ?_
    refine VL.r (.inl rfl) rfl (by decide) (yr_assign rfl rfl) ?_
    refine VL.nil ?_
    refine VE.then_wp ?_
    refine V.ret ?_
    refine ret1 rfl rfl (fun w1 hw => ?_)
    obtain rfl : k = xss.length := by omega
    rw [hdk_all, List.take_length] at hw
    exact ⟨(b7, g), rfl, hw.outs (List.Sublist.refl _)⟩
theorem c_eqFF [PhC] {w : World} {a b : Option Addr} {c d : Nat} {f g : Nat → Option Addr × Nat} {xss yss : List (List Nat)} (hA : Cl w a (hd f xss)) (hRA : Rws w f xss) (hB : Cl w b (hd g yss)) (hRB : Rws w g yss) (hX : Cans xss) (hY : Cans yss) (hn : xss.length ≤ 1050000) (hr : ∀ i, i < xss.length → (xss.getD i []).length ≤ 1050000) : Pure Try.prog 39 [.slice a xss.length c, .slice b yss.length d] w (.bool (xss == yss)) := by
  refine Pure.enter Try.func39 rfl Try.ntmps39 (Nat.le_of_ble_eq_true rfl) ?_
  refine V.seq ?_
  refine V.region ?_
  refine VL.r (.inl rfl) rfl (by decide) (yr_assign (u := .bool false) rfl rfl) ?_
  refine VL.nil ?_
  refine VE.then_wp ?_
  refine V.seq ?_
  refine V.seq ?_
  refine V.region ?_
  refine VL.r (.inl rfl) rfl (by decide) (yr_move rfl rfl) ?_
  refine VL.r (.inl rfl) rfl (by decide) (yr_len rfl Try.underlying22 rfl) ?_
  refine VL.r (.inl rfl) rfl (by decide) (yr_move rfl rfl) ?_
  refine VL.r (.inl rfl) rfl (by decide) (yr_len rfl Try.underlying22 rfl) ?_
  refine VL.r (.inl rfl) rfl (by decide) (yr_icmp rfl (.inr (.inl rfl)) rfl rfl) ?_
  refine VL.nil ?_
  refine VE.then_wp ?_
  refine V.cond rfl (fun h1 => ?_) (fun h1 => ?_)
  · skip
    replace h1 := ic_neq h1
    refine V.seq ?_
    refine V.region ?_
    refine VL.r (.inl rfl) rfl (by decide) (yr_assign (u := .bool false) rfl rfl) ?_
    refine VL.nil ?_
    refine VE.then_wp ?_
    refine V.ret ?_
    refine VE.then_ret ?_
    refine ret1 rfl rfl (fun w1 hw => ?_)
    refine ⟨congrArg Value.bool ?_, hw.below⟩
    symm; rw [beq_eq_false_iff_ne]; rintro rfl; exact h1 rfl
  · skip
    replace h1 := ic_neq' h1
    refine V.skip ?_
    refine VE.then_wp ?_
    refine V.seq ?_
    refine V.seq ?_
    refine V.region ?_
    refine VL.r (.inl rfl) rfl (by decide) (yr_assign (u := .int .i64 0) rfl rfl) ?_
    refine VL.nil ?_
    refine VE.then_wp ?_
    refine V.block ?_
    refine V.loops (G := Nat) [(0, _), (1, _)] (fun (k : Nat) => k ≤ xss.length ∧ xss.take k = yss.take k) (fun (k : Nat) => [(5, .int .i64 (k : Int))]) (fun (k : Nat) => xss.length - k) 0 (.cons rfl (.cons rfl .nil)) (.cons rfl .nil) ?_ ?_
    · exact (by simp)
    rintro k ⟨hk, ht⟩
    show V _ _ _ _ ([(5, .int .i64 (k : Int))] ++ [(0, _), (1, _)]) _ _
    refine V.seq ?_
    refine V.seq ?_
    refine V.region ?_
    refine VL.r (.inl rfl) rfl (by decide) (yr_move rfl rfl) ?_
    refine VL.r (.inl rfl) rfl (by decide) (yr_move rfl rfl) ?_
    refine VL.r (.inl rfl) rfl (by decide) (yr_len rfl Try.underlying22 rfl) ?_
    refine VL.r (.inl rfl) rfl (by decide) (yr_icmp rfl (.inr (.inr (.inl rfl))) rfl rfl) ?_
    refine VL.nil ?_
    refine VE.then_wp ?_
    refine V.cond rfl (fun h2 => ?_) (fun h2 => ?_)
    · skip
      replace h2 := ic_lss h2
      refine V.skip ?_
      refine VE.then_wp ?_
      refine V.seq ?_
      refine V.block ?_
      refine V.seq ?_
      refine V.draw [(0, 0), (1, 0), (2, 0), (3, 0), (4, 0), (5, 0), (6, 0), (7, 0), (8, 0), (9, 0)] mixed_Rows (by kernel_rfl) (by intro j o hj; simp at hj) ?_
      refine SW.r rfl (.inl rfl) rfl (by decide) (yr_move rfl rfl) ?_
      refine SW.r rfl (.inl rfl) rfl (by decide) (yr_move rfl rfl) ?_
      refine SW.q rfl (.inl rfl) rfl (by decide) (yq_idx (k := k) rfl Try.underlying22 sz23_Rows rfl rfl zz0 zz2 (by exact hd_length _ _) (by omega)) ?_
      refine SW.q rfl (.inl rfl) rfl (by decide) (yq_loadH rfl fb23_Rows rfl zz0 (by omega)) ?_
      refine SW.r rfl (.inl rfl) rfl (by decide) (yr_move rfl rfl) ?_
      refine SW.r rfl (.inl rfl) rfl (by decide) (yr_move rfl rfl) ?_
      refine SW.q rfl (.inl rfl) rfl (by decide) (yq_idx (k := k) rfl Try.underlying22 sz23_Rows rfl rfl zz0 zz2 (by exact hd_length _ _) (by omega)) ?_
      refine SW.q rfl (.inl rfl) rfl (by decide) (yq_loadH rfl fb23_Rows rfl zz0 (by omega)) ?_
      refine SW.q rfl (.inl rfl) rfl (by decide) (yq_callf rfl known11_Rows (.cons rfl (.cons rfl .nil)) (fun w hw => c_eqF (hRA.root hw k (by omega)) (hRB.root hw k (by omega)) (hX.row (by omega)) (hY.row (by omega)) (hr k (by omega)))) ?_
      refine SW.r rfl (.inl rfl) rfl (by decide) (yr_not rfl rfl) ?_
      refine SW.done ?_
      refine VE.then_wp ?_
      refine V.cond rfl (fun h3 => ?_) (fun h3 => ?_)
      · skip
        replace h3 := bnot_t h3
        refine V.seq ?_
        refine V.region ?_
        refine VL.r (.inl rfl) rfl (by decide) (yr_assign (u := .bool false) rfl rfl) ?_
        refine VL.nil ?_
        refine VE.then_wp ?_
        refine V.ret ?_
        refine VE.block_ret ?_
        refine VE.then_ret ?_
        refine VE.then_ret ?_
        refine VE.block_ret ?_
        refine VE.then_ret ?_
        refine ret1 rfl rfl (fun w1 hw => ?_)
        refine ⟨congrArg Value.bool ?_, hw.below⟩
        rw [beq_eq_false_iff_ne] at h3
        symm; rw [beq_eq_false_iff_ne]; rintro rfl; exact h3 rfl
      · skip
        replace h3 := bnot_f h3
        refine V.skip ?_
        refine VE.block_normal ?_
        refine VE.then_wp ?_
        refine V.region ?_
        refine VL.r (.inl rfl) rfl (by decide) (yr_move rfl rfl) ?_
        refine VL.r (.inl rfl) rfl (by decide) (yr_int rfl rfl rfl (.inl ⟨rfl, wrap_in (by omega)⟩)) ?_
        refine VL.r (.inl rfl) rfl (by decide) (yr_assign rfl rfl) ?_
        refine VL.nil ?_
        refine VE.round (k + 1) ?_ ?_ ?_ ?_ ?_
        · exact (.cons rfl .nil)
        · exact (.cons rfl (.cons rfl .nil))
        · exact (fun w hw => hw)
        · rw [beq_iff_eq] at h3
          exact ⟨by omega, by rw [← take_snoc (by omega), ← take_snoc (by omega), ht, h3]⟩
        · (try dsimp only); omega
    · skip
      replace h2 := ic_lss' h2
      refine V.exit ?_
      refine VE.then_exit ?_
      refine VE.then_exit ?_
      refine VE.block_here ?_
      refine VE.then_wp ?_
      refine V.seq ?_
      refine V.region ?_
      refine VL.r (.inl rfl) rfl (by decide) (yr_assign (u := .bool true) rfl rfl) ?_
      refine VL.nil ?_
      refine VE.then_wp ?_
      refine V.ret ?_
      refine ret1 rfl rfl (fun w1 hw => ?_)
      refine ⟨congrArg Value.bool ?_, hw.below⟩
      symm; rw [beq_iff_eq]
      rwa [List.take_of_length_le (by omega), List.take_of_length_le (by omega)] at ht
theorem c_idxF [PhC] {w : World} {a : Option Addr} {c : Nat} {xs : List Nat} {g : FuncId} {cs : Array Value} {p : Nat → Bool} (hA : Cl w a (fl xs)) (hg : Known Try.prog g) (hF : ∀ w', Below w.heap.size w w' → ∀ k, k < xs.length → Pure Try.prog g ([.float .f32 (xs.getD k 0)] ++ cs.toList.map cn) w' (.bool (p k))) (hn : xs.length ≤ 1050000) : Pure Try.prog 111 [.slice a xs.length c, .func (.func g) #[] cs] w (.int .i64 (idxI p xs.length)) := by
  refine Pure.enter Try.func111 rfl Try.ntmps111 (Nat.le_of_ble_eq_true rfl) ?_
  refine V.seq ?_
  refine V.region ?_
  refine VL.r (.inl rfl) rfl (by decide) (yr_assign (u := .int .i64 0) rfl rfl) ?_
  refine VL.nil ?_
  refine VE.then_wp ?_
  refine V.seq ?_
  refine V.seq ?_
  refine V.region ?_
  refine VL.r (.inl rfl) rfl (by decide) (yr_move rfl rfl) ?_
  refine VL.r (.inl rfl) rfl (by decide) (yr_len rfl Try.underlying23 rfl) ?_
  refine VL.r (.inl rfl) rfl (by decide) (yr_move (u := .int .i64 0) rfl rfl) ?_
  refine VL.nil ?_
  refine VE.then_wp ?_
  refine V.block ?_
  refine V.loops (G := Nat) [(0, _), (1, _), (7, _)] (fun (k : Nat) => k ≤ xs.length ∧ ∀ j, j < k → p j = false) (fun (k : Nat) => [(8, .int .i64 (k : Int))]) (fun (k : Nat) => xs.length - k) 0 (.cons rfl (.cons rfl (.cons rfl .nil))) (.cons rfl .nil) ?_ ?_
  · exact (by exact ⟨by omega, fun j h => by omega⟩)
  rintro k ⟨hk, hI⟩
  show V _ _ _ _ ([(8, .int .i64 (k : Int))] ++ [(0, _), (1, _), (7, _)]) _ _
  refine V.seq ?_
  refine V.region ?_
  refine VL.r (.inl rfl) rfl (by decide) (yr_icmp rfl (.inr (.inr (.inl rfl))) rfl rfl) ?_
  refine VL.nil ?_
  refine VE.then_wp ?_
  refine V.seq ?_
  refine V.cond rfl (fun h1 => ?_) (fun h1 => ?_)
  · skip
    replace h1 := ic_lss h1
    refine V.skip ?_
    refine VE.then_wp ?_
    refine V.seq ?_
    refine V.block ?_
    refine V.seq ?_
    refine V.region ?_
    refine VL.r (.inl rfl) rfl (by decide) (yr_move rfl rfl) ?_
    refine VL.r (.inl rfl) rfl (by decide) (yr_assign rfl rfl) ?_
    refine VL.nil ?_
    refine VE.then_wp ?_
    refine V.seq ?_
    refine V.region ?_
    refine VL.r (.inl rfl) rfl (by decide) (yr_move rfl rfl) ?_
    refine VL.r (.inl rfl) rfl (by decide) (yr_move rfl rfl) ?_
    refine VL.r (.inl rfl) rfl (by decide) (yr_move rfl rfl) ?_
    refine VL.q (.inl rfl) rfl (by decide) (yq_idx (k := k) rfl Try.underlying23 sz26_Rows rfl rfl zz0 zz2 (by exact fl_length _) (by omega)) ?_
    refine VL.q (.inl rfl) rfl (by decide) (yq_loadF rfl fb26_Rows rfl zz0 (by omega)) ?_
    refine VL.qv (.inl rfl) rfl (by decide) (VEv.ofK hg rfl rfl) (yq_call rfl hg rfl (.cons rfl .nil) (fun w hw => hF w hw.below k (by omega))) ?_
    refine VL.nil ?_
    refine VE.then_wp ?_
    refine V.cond rfl (fun h2 => ?_) (fun h2 => ?_)
    · skip
      refine V.seq ?_
      refine V.region ?_
      refine VL.r (.inl rfl) rfl (by decide) (yr_move rfl rfl) ?_
      refine VL.r (.inl rfl) rfl (by decide) (yr_assign rfl rfl) ?_
      refine VL.nil ?_
      refine VE.then_wp ?_
      refine V.ret ?_
      refine VE.block_ret ?_
      refine VE.then_ret ?_
      refine VE.then_ret ?_
      refine VE.block_ret ?_
      refine VE.then_ret ?_
      refine ret1 rfl rfl (fun w1 hw => ?_)
      exact ⟨by rw [idxI_of hI (by assumption) (by omega)], hw.below⟩
    · skip
      refine V.skip ?_
      refine VE.block_normal ?_
      refine VE.then_wp ?_
      refine V.region ?_
      refine VL.r (.inl rfl) rfl (by decide) (yr_int rfl rfl rfl (.inl ⟨rfl, wrap_in (by omega)⟩)) ?_
      refine VL.r (.inl rfl) rfl (by decide) (yr_move rfl rfl) ?_
      refine VL.nil ?_
      refine VE.round (k + 1) ?_ ?_ ?_ ?_ ?_
      · exact (.cons rfl .nil)
      · exact (.cons rfl (.cons rfl (.cons rfl .nil)))
      · exact (fun w hw => hw)
      · exact ⟨by omega, fun j hj => by rcases Nat.lt_or_ge j k with h | h; exact hI j h; obtain rfl : j = k := (by omega); assumption⟩
      · (try dsimp only); omega
  · skip
    replace h1 := ic_lss' h1
    refine V.exit ?_
    refine VE.then_exit ?_
    refine VE.then_exit ?_
    refine VE.block_here ?_
    refine VE.then_wp ?_
    refine V.seq ?_
    refine V.region ?_
    refine VL.r (.inl rfl) rfl (by decide) (yr_assign (u := .int .i64 (-1)) rfl rfl) ?_
    refine VL.nil ?_
    refine VE.then_wp ?_
    refine V.ret ?_
    refine ret1 rfl rfl (fun w1 hw => ?_)
    obtain rfl : k = xs.length := by omega
    exact ⟨by rw [idxI_no hI], hw.below⟩
theorem c_hasF [PhC] {w : World} {a : Option Addr} {c : Nat} {xs : List Nat} {g : FuncId} {cs : Array Value} {p : Nat → Bool} (hA : Cl w a (fl xs)) (hg : Known Try.prog g) (hF : ∀ w', Below w.heap.size w w' → ∀ k, k < xs.length → Pure Try.prog g ([.float .f32 (xs.getD k 0)] ++ cs.toList.map cn) w' (.bool (p k))) (hn : xs.length ≤ 1050000) : Pure Try.prog 93 [.slice a xs.length c, .func (.func g) #[] cs] w (.bool (decide (0 ≤ idxI p xs.length))) := by
  refine Pure.enter Try.func93 rfl Try.ntmps93 (Nat.le_of_ble_eq_true rfl) ?_
  refine V.seq ?_
  refine V.region ?_
  refine VL.r (.inl rfl) rfl (by decide) (yr_assign (u := .bool false) rfl rfl) ?_
  refine VL.nil ?_
  refine VE.then_wp ?_
  refine V.seq ?_
  refine V.region ?_
  refine VL.r (.inl rfl) rfl (by decide) (yr_move rfl rfl) ?_
  refine VL.r (.inl rfl) rfl (by decide) (yr_move rfl rfl) ?_
  refine VL.q (.inl rfl) rfl (by decide) (yq_callf rfl known111_Rows (.cons rfl (.cons rfl .nil)) (fun w hw => (c_idxF zz1 hg (fun w1 hb => hF w1 (hw.below.trans (hb.mono hw.below.size))) (by omega)))) ?_
  refine VL.r (.inl rfl) rfl (by decide) (yr_icmp rfl (.inr (.inr (.inr (.inr (.inr rfl))))) rfl rfl) ?_
  refine VL.r (.inl rfl) rfl (by decide) (yr_assign rfl rfl) ?_
  refine VL.nil ?_
  refine VE.then_wp ?_
  refine V.ret ?_
  refine ret1 rfl rfl (fun w1 hw => ?_)
  exact ⟨rfl, hw.below⟩
theorem c_idxR [PhC] {w : World} {a : Option Addr} {c : Nat} {f : Nat → Option Addr × Nat} {xss : List (List Nat)} {g : FuncId} {cs : Array Value} {p : Nat → Bool} (hA : Cl w a (hd f xss)) (hg : Known Try.prog g) (hF : ∀ w', Below w.heap.size w w' → ∀ k, k < xss.length → Pure Try.prog g ([.slice (f k).1 (xss.getD k []).length (f k).2] ++ cs.toList.map cn) w' (.bool (p k))) (hn : xss.length ≤ 1050000) : Pure Try.prog 92 [.slice a xss.length c, .func (.func g) #[] cs] w (.int .i64 (idxI p xss.length)) := by
  refine Pure.enter Try.func92 rfl Try.ntmps92 (Nat.le_of_ble_eq_true rfl) ?_
  refine V.seq ?_
  refine V.region ?_
  refine VL.r (.inl rfl) rfl (by decide) (yr_assign (u := .int .i64 0) rfl rfl) ?_
  refine VL.nil ?_
  refine VE.then_wp ?_
  refine V.seq ?_
  refine V.seq ?_
  refine V.region ?_
  refine VL.r (.inl rfl) rfl (by decide) (yr_move rfl rfl) ?_
  refine VL.r (.inl rfl) rfl (by decide) (yr_len rfl Try.underlying22 rfl) ?_
  refine VL.r (.inl rfl) rfl (by decide) (yr_move (u := .int .i64 0) rfl rfl) ?_
  refine VL.nil ?_
  refine VE.then_wp ?_
  refine V.block ?_
  refine V.loops (G := Nat) [(0, _), (1, _), (7, _)] (fun (k : Nat) => k ≤ xss.length ∧ ∀ j, j < k → p j = false) (fun (k : Nat) => [(8, .int .i64 (k : Int))]) (fun (k : Nat) => xss.length - k) 0 (.cons rfl (.cons rfl (.cons rfl .nil))) (.cons rfl .nil) ?_ ?_
  · exact (by exact ⟨by omega, fun j h => by omega⟩)
  rintro k ⟨hk, hI⟩
  show V _ _ _ _ ([(8, .int .i64 (k : Int))] ++ [(0, _), (1, _), (7, _)]) _ _
  refine V.seq ?_
  refine V.region ?_
  refine VL.r (.inl rfl) rfl (by decide) (yr_icmp rfl (.inr (.inr (.inl rfl))) rfl rfl) ?_
  refine VL.nil ?_
  refine VE.then_wp ?_
  refine V.seq ?_
  refine V.cond rfl (fun h1 => ?_) (fun h1 => ?_)
  · skip
    replace h1 := ic_lss h1
    refine V.skip ?_
    refine VE.then_wp ?_
    refine V.seq ?_
    refine V.block ?_
    refine V.seq ?_
    refine V.region ?_
    refine VL.r (.inl rfl) rfl (by decide) (yr_move rfl rfl) ?_
    refine VL.r (.inl rfl) rfl (by decide) (yr_assign rfl rfl) ?_
    refine VL.nil ?_
    refine VE.then_wp ?_
    refine V.seq ?_
    refine V.region ?_
    refine VL.r (.inl rfl) rfl (by decide) (yr_move rfl rfl) ?_
    refine VL.r (.inl rfl) rfl (by decide) (yr_move rfl rfl) ?_
    refine VL.r (.inl rfl) rfl (by decide) (yr_move rfl rfl) ?_
    refine VL.q (.inl rfl) rfl (by decide) (yq_idx (k := k) rfl Try.underlying22 sz23_Rows rfl rfl zz0 zz2 (by exact hd_length _ _) (by omega)) ?_
    refine VL.q (.inl rfl) rfl (by decide) (yq_loadH rfl fb23_Rows rfl zz0 (by omega)) ?_
    refine VL.qv (.inl rfl) rfl (by decide) (VEv.ofK hg rfl rfl) (yq_call rfl hg rfl (.cons rfl .nil) (fun w hw => hF w hw.below k (by omega))) ?_
    refine VL.nil ?_
    refine VE.then_wp ?_
    refine V.cond rfl (fun h2 => ?_) (fun h2 => ?_)
    · skip
      refine V.seq ?_
      refine V.region ?_
      refine VL.r (.inl rfl) rfl (by decide) (yr_move rfl rfl) ?_
      refine VL.r (.inl rfl) rfl (by decide) (yr_assign rfl rfl) ?_
      refine VL.nil ?_
      refine VE.then_wp ?_
      refine V.ret ?_
      refine VE.block_ret ?_
      refine VE.then_ret ?_
      refine VE.then_ret ?_
      refine VE.block_ret ?_
      refine VE.then_ret ?_
      refine ret1 rfl rfl (fun w1 hw => ?_)
      exact ⟨by rw [idxI_of hI (by assumption) (by omega)], hw.below⟩
    · skip
      refine V.skip ?_
      refine VE.block_normal ?_
      refine VE.then_wp ?_
      refine V.region ?_
      refine VL.r (.inl rfl) rfl (by decide) (yr_int rfl rfl rfl (.inl ⟨rfl, wrap_in (by omega)⟩)) ?_
      refine VL.r (.inl rfl) rfl (by decide) (yr_move rfl rfl) ?_
      refine VL.nil ?_
      refine VE.round (k + 1) ?_ ?_ ?_ ?_ ?_
      · exact (.cons rfl .nil)
      · exact (.cons rfl (.cons rfl (.cons rfl .nil)))
      · exact (fun w hw => hw)
      · exact ⟨by omega, fun j hj => by rcases Nat.lt_or_ge j k with h | h; exact hI j h; obtain rfl : j = k := (by omega); assumption⟩
      · (try dsimp only); omega
  · skip
    replace h1 := ic_lss' h1
    refine V.exit ?_
    refine VE.then_exit ?_
    refine VE.then_exit ?_
    refine VE.block_here ?_
    refine VE.then_wp ?_
    refine V.seq ?_
    refine V.region ?_
    refine VL.r (.inl rfl) rfl (by decide) (yr_assign (u := .int .i64 (-1)) rfl rfl) ?_
    refine VL.nil ?_
    refine VE.then_wp ?_
    refine V.ret ?_
    refine ret1 rfl rfl (fun w1 hw => ?_)
    obtain rfl : k = xss.length := by omega
    exact ⟨by rw [idxI_no hI], hw.below⟩
theorem c_hasR [PhC] {w : World} {a : Option Addr} {c : Nat} {f : Nat → Option Addr × Nat} {xss : List (List Nat)} {g : FuncId} {cs : Array Value} {p : Nat → Bool} (hA : Cl w a (hd f xss)) (hg : Known Try.prog g) (hF : ∀ w', Below w.heap.size w w' → ∀ k, k < xss.length → Pure Try.prog g ([.slice (f k).1 (xss.getD k []).length (f k).2] ++ cs.toList.map cn) w' (.bool (p k))) (hn : xss.length ≤ 1050000) : Pure Try.prog 63 [.slice a xss.length c, .func (.func g) #[] cs] w (.bool (decide (0 ≤ idxI p xss.length))) := by
  refine Pure.enter Try.func63 rfl Try.ntmps63 (Nat.le_of_ble_eq_true rfl) ?_
  refine V.seq ?_
  refine V.region ?_
  refine VL.r (.inl rfl) rfl (by decide) (yr_assign (u := .bool false) rfl rfl) ?_
  refine VL.nil ?_
  refine VE.then_wp ?_
  refine V.seq ?_
  refine V.region ?_
  refine VL.r (.inl rfl) rfl (by decide) (yr_move rfl rfl) ?_
  refine VL.r (.inl rfl) rfl (by decide) (yr_move rfl rfl) ?_
  refine VL.q (.inl rfl) rfl (by decide) (yq_callf rfl known92_Rows (.cons rfl (.cons rfl .nil)) (fun w hw => (c_idxR zz1 hg (fun w1 hb => hF w1 (hw.below.trans (hb.mono hw.below.size))) (by omega)))) ?_
  refine VL.r (.inl rfl) rfl (by decide) (yr_icmp rfl (.inr (.inr (.inr (.inr (.inr rfl))))) rfl rfl) ?_
  refine VL.r (.inl rfl) rfl (by decide) (yr_assign rfl rfl) ?_
  refine VL.nil ?_
  refine VE.then_wp ?_
  refine V.ret ?_
  refine ret1 rfl rfl (fun w1 hw => ?_)
  exact ⟨rfl, hw.below⟩
theorem c_areFin1 [PhC] {w : World} (x : Nat) : Pure Try.prog 94 [.float .f32 x] w (.bool (!fin x)) := by
  refine Pure.enter Try.func94 rfl Try.ntmps94 (Nat.le_of_ble_eq_true rfl) ?_
  refine V.seq ?_
  refine V.region ?_
  refine VL.r (.inl rfl) rfl (by decide) (yr_assign (u := .bool false) rfl rfl) ?_
  refine VL.nil ?_
  refine VE.then_wp ?_
  refine V.seq ?_
  refine V.region ?_
  refine VL.r (.inl rfl) rfl (by decide) (yr_move rfl rfl) ?_
  refine VL.q (.inl rfl) rfl (by decide) (yq_callf rfl known42_Rows (.cons rfl .nil) (fun w hw => c_IsFinite _)) ?_
  refine VL.r (.inl rfl) rfl (by decide) (yr_not rfl rfl) ?_
  refine VL.r (.inl rfl) rfl (by decide) (yr_assign rfl rfl) ?_
  refine VL.nil ?_
  refine VE.then_wp ?_
  refine V.ret ?_
  refine ret1 rfl rfl (fun w1 hw => ?_)
  exact ⟨rfl, hw.below⟩
theorem c_areNot1 [PhC] {w : World} (x : Nat) : Pure Try.prog 95 [.float .f32 x] w (.bool (!least x)) := by
  refine Pure.enter Try.func95 rfl Try.ntmps95 (Nat.le_of_ble_eq_true rfl) ?_
  refine V.seq ?_
  refine V.region ?_
  refine VL.r (.inl rfl) rfl (by decide) (yr_assign (u := .bool false) rfl rfl) ?_
  refine VL.nil ?_
  refine VE.then_wp ?_
  refine V.seq ?_
  refine V.region ?_
  refine VL.r (.inl rfl) rfl (by decide) (yr_move rfl rfl) ?_
  refine VL.q (.inl rfl) rfl (by decide) (yq_callf rfl known42_Rows (.cons rfl .nil) (fun w hw => c_IsFinite _)) ?_
  refine VL.r (.inl rfl) rfl (by decide) (yr_not rfl rfl) ?_
  refine VL.r (.inl rfl) rfl (by decide) (yr_move rfl rfl) ?_
  refine VX.split 6 _ rfl (fun h1 => ?_) (fun h1 => ?_)
  · skip
    replace h1 := bnot_t h1
    refine VL.no rfl rfl rfl rfl rfl (by decide) ?_
    refine VL.no rfl rfl rfl rfl rfl (by decide) ?_
    refine VL.r (.inl rfl) rfl (by decide) (yr_pick_t (u := .bool true) rfl rfl rfl) ?_
    refine VL.r (.inl rfl) rfl (by decide) (yr_assign rfl rfl) ?_
    refine VL.nil ?_
    refine VE.then_wp ?_
    refine V.ret ?_
    refine ret1 rfl rfl (fun w1 hw => ?_)
    exact ⟨by simp only [least, *, Bool.false_and, Bool.not_false], hw.below⟩
  · skip
    replace h1 := bnot_f h1
    refine VL.r (.inr ⟨_, _, _, rfl, rfl, rfl⟩) rfl (by decide) (yr_move rfl rfl) ?_
    refine VL.r (.inr ⟨_, _, _, rfl, rfl, rfl⟩) rfl (by decide) (yr_fcmp (b := 0) rfl (.inr (.inr (.inl rfl))) rfl rfl) ?_
    refine VL.r (.inl rfl) rfl (by decide) (yr_pick_f rfl rfl rfl) ?_
    refine VL.r (.inl rfl) rfl (by decide) (yr_assign rfl rfl) ?_
    refine VL.nil ?_
    refine VE.then_wp ?_
    refine V.ret ?_
    refine ret1 rfl rfl (fun w1 hw => ?_)
    exact ⟨by simp only [least, *, Bool.true_and, lss_geq, Bool.not_not], hw.below⟩
theorem c_areFinite [PhC] {w : World} {a : Option Addr} {c : Nat} {xs : List Nat} (hA : Cl w a (fl xs)) (hn : xs.length ≤ 1050000) : Pure Try.prog 65 [.slice a xs.length c] w (.bool (xs.all fin)) := by
  refine Pure.enter Try.func65 rfl Try.ntmps65 (Nat.le_of_ble_eq_true rfl) ?_
  refine V.seq ?_
  refine V.region ?_
  refine VL.r (.inl rfl) rfl (by decide) (yr_assign (u := .bool false) rfl rfl) ?_
  refine VL.nil ?_
  refine VE.then_wp ?_
  refine V.seq ?_
  refine V.region ?_
  refine VL.r (.inl rfl) rfl (by decide) (yr_move rfl rfl) ?_
  refine VL.q (.inl rfl) rfl (by decide) (yq_callf rfl known93_Rows (.cons rfl (.cons rfl .nil)) (fun w hw => (c_hasF (p := fun k => !fin (xs.getD k 0)) zz1 known94_Rows (fun w1 _ k _ => c_areFin1 _) (by omega)))) ?_
  refine VL.r (.inl rfl) rfl (by decide) (yr_not rfl rfl) ?_
  refine VL.r (.inl rfl) rfl (by decide) (yr_assign rfl rfl) ?_
  refine VL.nil ?_
  refine VE.then_wp ?_
  refine V.ret ?_
  refine ret1 rfl rfl (fun w1 hw => ?_)
  exact ⟨congrArg Value.bool (all_list fin xs), hw.below⟩
theorem c_areNotNeg [PhC] {w : World} {a : Option Addr} {c : Nat} {xs : List Nat} (hA : Cl w a (fl xs)) (hn : xs.length ≤ 1050000) : Pure Try.prog 66 [.slice a xs.length c] w (.bool (xs.all least)) := by
  refine Pure.enter Try.func66 rfl Try.ntmps66 (Nat.le_of_ble_eq_true rfl) ?_
  refine V.seq ?_
  refine V.region ?_
  refine VL.r (.inl rfl) rfl (by decide) (yr_assign (u := .bool false) rfl rfl) ?_
  refine VL.nil ?_
  refine VE.then_wp ?_
  refine V.seq ?_
  refine V.region ?_
  refine VL.r (.inl rfl) rfl (by decide) (yr_move rfl rfl) ?_
  refine VL.q (.inl rfl) rfl (by decide) (yq_callf rfl known93_Rows (.cons rfl (.cons rfl .nil)) (fun w hw => (c_hasF (p := fun k => !least (xs.getD k 0)) zz1 known95_Rows (fun w1 _ k _ => c_areNot1 _) (by omega)))) ?_
  refine VL.r (.inl rfl) rfl (by decide) (yr_not rfl rfl) ?_
  refine VL.r (.inl rfl) rfl (by decide) (yr_assign rfl rfl) ?_
  refine VL.nil ?_
  refine VE.then_wp ?_
  refine V.ret ?_
  refine ret1 rfl rfl (fun w1 hw => ?_)
  exact ⟨congrArg Value.bool (all_list least xs), hw.below⟩
theorem c_l07Row [PhC] {w : World} {a : Option Addr} {c : Nat} {xs : List Nat} {n : Nat} (hA : Cl w a (fl xs)) (hn : xs.length ≤ 1050000) : Pure Try.prog 68 [.slice a xs.length c, .int .i64 (n : Int)] w (.bool (rowOk xs n)) := by
  refine Pure.enter Try.func68 rfl Try.ntmps68 (Nat.le_of_ble_eq_true rfl) ?_
  refine V.seq ?_
  refine V.region ?_
  refine VL.r (.inl rfl) rfl (by decide) (yr_assign (u := .bool false) rfl rfl) ?_
  refine VL.nil ?_
  refine VE.then_wp ?_
  refine V.seq ?_
  refine V.seq ?_
  refine V.region ?_
  refine VL.r (.inl rfl) rfl (by decide) (yr_move rfl rfl) ?_
  refine VL.r (.inl rfl) rfl (by decide) (yr_len rfl Try.underlying23 rfl) ?_
  refine VL.r (.inl rfl) rfl (by decide) (yr_move (u := .int .i64 0) rfl rfl) ?_
  refine VL.nil ?_
  refine VE.then_wp ?_
  refine V.block ?_
  refine V.loops (G := Nat) [(0, _), (1, _), (7, _)] (fun (k : Nat) => k ≤ xs.length ∧ ∀ j, j < k → fin (xs.getD j 0) = true) (fun (k : Nat) => [(8, .int .i64 (k : Int))]) (fun (k : Nat) => xs.length - k) 0 (.cons rfl (.cons rfl (.cons rfl .nil))) (.cons rfl .nil) ?_ ?_
  · exact (by exact ⟨by omega, fun j h => by omega⟩)
  rintro k ⟨hk, hI⟩
  show V _ _ _ _ ([(8, .int .i64 (k : Int))] ++ [(0, _), (1, _), (7, _)]) _ _
  refine V.seq ?_
  refine V.region ?_
  refine VL.r (.inl rfl) rfl (by decide) (yr_icmp rfl (.inr (.inr (.inl rfl))) rfl rfl) ?_
  refine VL.nil ?_
  refine VE.then_wp ?_
  refine V.seq ?_
  refine V.cond rfl (fun h1 => ?_) (fun h1 => ?_)
  · skip
    replace h1 := ic_lss h1
    refine V.skip ?_
    refine VE.then_wp ?_
    refine V.seq ?_
    refine V.block ?_
    refine V.seq ?_
    refine V.region ?_
    refine VL.r (.inl rfl) rfl (by decide) (yr_move rfl rfl) ?_
    refine VL.r (.inl rfl) rfl (by decide) (yr_assign rfl rfl) ?_
    refine VL.nil ?_
    refine VE.then_wp ?_
    refine V.seq ?_
    refine V.region ?_
    refine VL.r (.inl rfl) rfl (by decide) (yr_move rfl rfl) ?_
    refine VL.r (.inl rfl) rfl (by decide) (yr_move rfl rfl) ?_
    refine VL.q (.inl rfl) rfl (by decide) (yq_idx (k := k) rfl Try.underlying23 sz26_Rows rfl rfl zz0 zz2 (by first | exact fl_length _ | exact hd_length _ _ | simp) (by omega)) ?_
    refine VL.q (.inl rfl) rfl (by decide) (yq_loadF rfl fb26_Rows rfl zz0 (by omega)) ?_
    refine VL.q (.inl rfl) rfl (by decide) (yq_callf rfl known69_Rows (.cons rfl .nil) (fun w hw => c_l01Finite _)) ?_
    refine VL.r (.inl rfl) rfl (by decide) (yr_not rfl rfl) ?_
    refine VL.nil ?_
    refine VE.then_wp ?_
    refine V.cond rfl (fun h2 => ?_) (fun h2 => ?_)
    · skip
      replace h2 := bnot_t h2
      refine V.seq ?_
      refine V.region ?_
      refine VL.r (.inl rfl) rfl (by decide) (yr_assign (u := .bool false) rfl rfl) ?_
      refine VL.nil ?_
      refine VE.then_wp ?_
      refine V.ret ?_
      refine VE.block_ret ?_
      refine VE.then_ret ?_
      refine VE.then_ret ?_
      refine VE.block_ret ?_
      refine VE.then_ret ?_
      refine ret1 rfl rfl (fun w1 hw => ?_)
      exact ⟨by rw [rowOk, all_no (k := k) (by omega) (by assumption), Bool.false_and], hw.below⟩
    · skip
      replace h2 := bnot_f h2
      refine V.skip ?_
      refine VE.block_normal ?_
      refine VE.then_wp ?_
      refine V.region ?_
      refine VL.r (.inl rfl) rfl (by decide) (yr_int rfl rfl rfl (.inl ⟨rfl, wrap_in (by omega)⟩)) ?_
      refine VL.r (.inl rfl) rfl (by decide) (yr_move rfl rfl) ?_
      refine VL.nil ?_
      refine VE.round (k + 1) ?_ ?_ ?_ ?_ ?_
      · exact (.cons rfl .nil)
      · exact (.cons rfl (.cons rfl (.cons rfl .nil)))
      · exact (fun w hw => hw)
      · exact ⟨by omega, fun j hj => by rcases Nat.lt_or_ge j k with h | h; exact hI j h; obtain rfl : j = k := (by omega); assumption⟩
      · (try dsimp only); omega
  · skip
    replace h1 := ic_lss' h1
    refine V.exit ?_
    refine VE.then_exit ?_
    refine VE.then_exit ?_
    refine VE.block_here ?_
    refine VE.then_wp ?_
    refine V.seq ?_
    refine V.region ?_
    refine VL.r (.inl rfl) rfl (by decide) (yr_move rfl rfl) ?_
    refine VL.r (.inl rfl) rfl (by decide) (yr_len rfl Try.underlying23 rfl) ?_
    refine VL.r (.inl rfl) rfl (by decide) (yr_move rfl rfl) ?_
    refine VL.r (.inl rfl) rfl (by decide) (yr_icmp rfl (.inl rfl) rfl rfl) ?_
    refine VL.r (.inl rfl) rfl (by decide) (yr_assign rfl rfl) ?_
    refine VL.nil ?_
    refine VE.then_wp ?_
    refine V.ret ?_
    refine ret1 rfl rfl (fun w1 hw => ?_)
    obtain rfl : k = xs.length := by omega
    refine ⟨congrArg Value.bool ?_, hw.below⟩
    rw [rowOk, all_getD.2 hI, Bool.true_and]
    exact icmp_eqN _ _
end Go.Proofs.Ytgeflnjjppgooaa.Q
