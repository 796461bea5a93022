/- Own texts of this claim, merged: QWSolve, QNest, QDesign, QWRows, QWDesign, QDraw. -/
import Derived.KernelRfl
import Derived.Test.YtgeflnjjppgooaaKFnFitted3
namespace Go.Proofs.Ytgeflnjjppgooaa.Q
open Go.RowKit
set_option linter.unusedVariables false
set_option linter.unusedSimpArgs false
set_option maxRecDepth 20000
set_option maxHeartbeats 800000
attribute [local irreducible] wqList Wq
theorem elt26_Solve : Elt Try.prog 26 [Value.float .f32 0] 4 := Elt.mk' (by kernel_rfl) (by decide)
theorem sz26_Solve : (Try.prog.info? 26).map (·.size) = some 1 := by kernel_rfl
theorem fb26_Solve : flatB Try.prog 26 = true := by kernel_rfl
theorem mixed_Solve : Try.prog.follows .mixedOrders = true := by kernel_rfl
theorem known87_Solve : Known Try.prog 87 := Known.mk' Try.func87 (by kernel_rfl)
theorem known88_Solve : Known Try.prog 88 := Known.mk' Try.func88 (by kernel_rfl)
theorem known58_Solve : Known Try.prog 58 := Known.mk' Try.func58 (by kernel_rfl)
theorem known60_Solve : Known Try.prog 60 := Known.mk' Try.func60 (by kernel_rfl)
theorem c_l07Side [PhC] {w : World} {m n : Nat} (hn : n = side m) (hm : m ≤ 1050000) : Pure Try.prog 87 [.int .i64 (m : Int)] w (.int .i64 (n : Int)) := by
  refine Pure.enter Try.func87 rfl Try.ntmps87 (Nat.le_of_ble_eq_true rfl) ?_
  refine V.seq (V.region ?_)
  refine vr (yr_assign (u := .int .i64 0) rfl rfl) ?_
  refine VL.nil (VE.then_wp (V.seq (V.seq (V.region ?_))))
  refine vr (yr_assign (u := .int .i64 1) rfl rfl) ?_
  refine VL.nil (VE.then_wp (V.block ?_))
  refine V.loops (G := Nat) [(0, _)] (fun (k : Nat) => 1 ≤ k ∧ k ≤ 9 ∧ ∀ j, 1 ≤ j → j < k → j * j ≠ m) (fun (k : Nat) => [(3, .int .i64 (k : Int))]) (fun (k : Nat) => 9 - k) 1 (.cons rfl .nil) (.cons rfl .nil) ?_ ?_
  · exact (by exact ⟨by omega, by omega, fun j h1 h2 => by omega⟩)
  rintro k ⟨h1k, hk, hI⟩
  show V _ _ _ _ ([(3, .int .i64 (k : Int))] ++ [(0, _)]) _ _
  have hkk : k * k ≤ 81 := Nat.mul_le_mul hk hk
  refine V.seq (V.seq (V.region ?_))
  refine vr (yr_move rfl rfl) ?_
  refine vr (yr_icmp rfl (.inr (.inr (.inr (.inl rfl)))) rfl rfl) ?_
  refine VL.nil (VE.then_wp ?_)
  refine V.cond rfl (fun h1 => ?_) (fun h1 => ?_)
  · skip
    replace h1 := ic_leq h1
    refine V.skip (VE.then_wp (V.seq (V.block (V.seq (V.region ?_)))))
    refine vr (yr_move rfl rfl) ?_
    refine vr (yr_move rfl rfl) ?_
    refine vr (yr_mulN k k rfl rfl rfl (by omega) (by omega) (Nat.le_trans (mul_small (by omega) (by omega)) (by decide))) ?_
    refine vr (yr_move rfl rfl) ?_
    refine vr (yr_icmp rfl (.inl rfl) rfl rfl) ?_
    refine VL.nil (VE.then_wp ?_)
    refine V.cond rfl (fun h2 => ?_) (fun h2 => ?_)
    · skip
      replace h2 := ic_eql h2
      refine V.seq (V.region ?_)
      refine vr (yr_move rfl rfl) ?_
      refine vr (yr_assign rfl rfl) ?_
      refine VL.nil (VE.then_wp (V.ret ?_))
      refine VE.block_ret ?_
      refine VE.then_ret (VE.then_ret ?_)
      refine VE.block_ret ?_
      refine VE.then_ret ?_
      refine ret1 rfl rfl (fun w1 hw => ?_)
      refine ⟨?_, hw.below⟩
      rw [hn, side_of h1k (by omega) (by omega : k * k = m)]
    replace h2 := ic_eql' h2
    refine V.skip (VE.block_normal (VE.then_wp (V.region ?_)))
    refine vr (yr_move rfl rfl) ?_
    refine vr (yr_int rfl rfl rfl (.inl ⟨rfl, wrap_in (by omega)⟩)) ?_
    refine vr (yr_assign rfl rfl) ?_
    refine VL.nil ?_
    refine VE.round (k + 1) ?_ ?_ ?_ ?_ ?_
    · exact (.cons rfl .nil)
    · exact (.cons rfl .nil)
    · exact (fun w hw => hw)
    · exact ⟨by omega, by omega, fun j g1 g2 => by rcases Nat.lt_or_ge j k with g | g; exact hI j g1 g; obtain rfl : j = k := (by omega); omega⟩
    · (try dsimp only); omega
  replace h1 := ic_leq' h1
  refine V.exit ?_
  refine VE.then_exit (VE.then_exit (VE.block_here (VE.then_wp (V.seq (V.region ?_)))))
  refine vr (yr_assign (u := .int .i64 0) rfl rfl) ?_
  refine VL.nil (VE.then_wp (V.ret ?_))
  refine ret1 rfl rfl (fun w1 hw => ?_)
  refine ⟨?_, hw.below⟩
  have : k = 9 := by omega
  subst this
  rw [hn, side_none hI]
  rfl
theorem c_sideOf [PhC] {w : World} {a : Option Addr} {c m n : Nat} (hn : n = side m) (hm : m ≤ 1050000) : Pure Try.prog 58 [.slice a m c] w (.tuple #[.int .i64 (n : Int), .bool (decide (n ≠ 0))]) := by
  refine Pure.enter Try.func58 rfl Try.ntmps58 (Nat.le_of_ble_eq_true rfl) ?_
  refine V.seq (V.region ?_)
  refine vr (yr_assign (u := .int .i64 0) rfl rfl) ?_
  refine vr (yr_assign (u := .bool false) rfl rfl) ?_
  refine VL.nil (VE.then_wp (V.seq (V.seq (V.region ?_))))
  refine vr (yr_assign (u := .int .i64 1) rfl rfl) ?_
  refine VL.nil (VE.then_wp (V.block ?_))
  refine V.loops (G := Nat) [(0, _)] (fun (k : Nat) => 1 ≤ k ∧ k ≤ 9 ∧ ∀ j, 1 ≤ j → j < k → j * j ≠ m) (fun (k : Nat) => [(4, .int .i64 (k : Int))]) (fun (k : Nat) => 9 - k) 1 (.cons rfl .nil) (.cons rfl .nil) ?_ ?_
  · exact (by exact ⟨by omega, by omega, fun j h1 h2 => by omega⟩)
  rintro k ⟨h1k, hk, hI⟩
  show V _ _ _ _ ([(4, .int .i64 (k : Int))] ++ [(0, _)]) _ _
  have hkk : k * k ≤ 81 := Nat.mul_le_mul hk hk
  refine V.seq (V.seq (V.region ?_))
  refine vr (yr_move rfl rfl) ?_
  refine vr (yr_icmp rfl (.inr (.inr (.inr (.inl rfl)))) rfl rfl) ?_
  refine VL.nil (VE.then_wp ?_)
  refine V.cond rfl (fun h1 => ?_) (fun h1 => ?_)
  · skip
    replace h1 := ic_leq h1
    refine V.skip (VE.then_wp (V.seq (V.block (V.seq (V.region ?_)))))
    refine vr (yr_move rfl rfl) ?_
    refine vr (yr_move rfl rfl) ?_
    refine vr (yr_mulN k k rfl rfl rfl (by omega) (by omega) (Nat.le_trans (mul_small (by omega) (by omega)) (by decide))) ?_
    refine vr (yr_move rfl rfl) ?_
    refine vr (yr_len rfl Try.underlying23 rfl) ?_
    refine vr (yr_icmp rfl (.inl rfl) rfl rfl) ?_
    refine VL.nil (VE.then_wp ?_)
    refine V.cond rfl (fun h2 => ?_) (fun h2 => ?_)
    · skip
      replace h2 := ic_eql h2
      refine V.seq (V.region ?_)
      refine vr (yr_move rfl rfl) ?_
      refine vr (yr_assign rfl rfl) ?_
      refine vr (yr_assign (u := .bool true) rfl rfl) ?_
      refine VL.nil (VE.then_wp (V.ret ?_))
      refine VE.block_ret ?_
      refine VE.then_ret (VE.then_ret ?_)
      refine VE.block_ret ?_
      refine VE.then_ret ?_
      refine ret2 rfl rfl rfl (by nofun) (by nofun) (fun w1 hw => ?_)
      refine ⟨?_, hw.below⟩
      have hs := side_of h1k (by omega) (by omega : k * k = m)
      rw [hn, hs, decide_eq_true (by omega)]
    replace h2 := ic_eql' h2
    refine V.skip (VE.block_normal (VE.then_wp (V.region ?_)))
    refine vr (yr_move rfl rfl) ?_
    refine vr (yr_int rfl rfl rfl (.inl ⟨rfl, wrap_in (by omega)⟩)) ?_
    refine vr (yr_assign rfl rfl) ?_
    refine VL.nil ?_
    refine VE.round (k + 1) ?_ ?_ ?_ ?_ ?_
    · exact (.cons rfl .nil)
    · exact (.cons rfl .nil)
    · exact (fun w hw => hw)
    · exact ⟨by omega, by omega, fun j g1 g2 => by rcases Nat.lt_or_ge j k with g | g; exact hI j g1 g; obtain rfl : j = k := (by omega); omega⟩
    · (try dsimp only); omega
  replace h1 := ic_leq' h1
  refine V.exit ?_
  refine VE.then_exit (VE.then_exit (VE.block_here (VE.then_wp (V.seq (V.region ?_)))))
  refine vr (yr_assign (u := .int .i64 0) rfl rfl) ?_
  refine vr (yr_assign (u := .bool false) rfl rfl) ?_
  refine VL.nil (VE.then_wp (V.ret ?_))
  refine ret2 rfl rfl rfl (by nofun) (by nofun) (fun w1 hw => ?_)
  refine ⟨?_, hw.below⟩
  have : k = 9 := by omega
  subst this
  rw [hn, side_none hI]
  rfl
theorem c_cloneF [PhC] {w : World} {a : Option Addr} {c : Nat} {xs : List Nat} (hA : Cl w a (fl xs)) (hn : xs.length ≤ 1050000) : New Try.prog 60 [.slice a xs.length c] w (fun p : Option Addr × Nat => .slice p.1 xs.length p.2) (fun p => [⟨p.1, fl xs, p.2 * 1, 26⟩]) := by
  refine New.enter Try.func60 rfl Try.ntmps60 (Nat.le_of_ble_eq_true rfl) ?_
  refine V.seq (V.region ?_)
  refine vr (yr_assign (u := .slice none 0 0) rfl rfl) ?_
  refine VL.nil (VE.then_wp (V.seq (V.seq (V.region ?_))))
  refine vr (yr_move rfl rfl) ?_
  refine vr (yr_nileq rfl Try.underlying23 rfl rfl) ?_
  refine VL.nil (VE.then_wp ?_)
  refine V.cond rfl (fun h1 => ?_) (fun h1 => ?_)
  · skip
    refine V.seq (V.region ?_)
    refine vr (yr_assign (u := .slice none 0 0) rfl rfl) ?_
    refine VL.nil (VE.then_wp (V.ret (VE.then_ret ?_)))
    refine ret1 rfl rfl (fun w1 hw => ?_)
    have hx : xs = [] := by
      rcases hA with h | ⟨p, h, _⟩
      · exact fl_inj h
      · rw [h] at h1; cases h1
    subst hx
    exact ⟨(none, 0), rfl, hw.below, by simp [fl, Ent.at], List.pairwise_singleton _ _⟩
  refine V.skip (VE.then_wp (V.seq (V.region ?_)))
  refine VL.new1 (.inl rfl) rfl (by decide) (yn_lit rfl Try.underlying23 elt26_Solve rfl (by decide) .nil (by first | (simp; done) | (simp [cn, cn1, cn0]; done)) rfl rfl rfl) ?_
  intro b5
  refine vr (yr_move rfl rfl) ?_
  refine VL.c (.inl rfl) rfl (by decide) (yc_appendz 1 rfl rfl Try.underlying23 elt26_Solve rfl rfl zz8 zz0 rfl (by simp) (by rw [fl_length]; omega) (by first | rfl | exact fl_scal _) (by first | rfl | exact fl_scal _) (by omega) (by omega)) ?_
  rintro ⟨a7, c7⟩
  refine vr (yr_assign rfl rfl) ?_
  refine VL.nil (VE.then_wp (V.ret ?_))
  refine ret1 rfl rfl (fun w1 hw => ?_)
  exact ⟨(a7, c7), by simp, hw.out1⟩
theorem c_l07Solve [PhC] {w : World} {a b : Option Addr} {c d n : Nat} {l bs : List Nat} (hA : Cl w a (fl l)) (hB : Cl w b (fl bs)) (hl : l.length = n * n) (hb : bs.length = n) (hn8 : n ≤ 8) : New Try.prog 88 [.slice a l.length c, .slice b bs.length d] w (fun p : Nat => .slice (some ⟨p, 0, none⟩) n n) (fun p => [⟨some ⟨p, 0, none⟩, fl (solve l bs n), n * 1, 26⟩]) := by
  have hnn : n * n ≤ 64 := Nat.mul_le_mul hn8 hn8
  rw [hb]
  have hix : ∀ {j k : Nat}, j < n → k < n → j * n + k < n * n := idx_lt
  refine New.enter Try.func88 rfl Try.ntmps88 (Nat.le_of_ble_eq_true rfl) ?_
  refine V.seq (V.region ?_)
  refine vr (yr_assign (u := .slice none 0 0) rfl rfl) ?_
  refine VL.nil (VE.then_wp (V.seq (V.region ?_)))
  refine vr (yr_move rfl rfl) ?_
  refine vr (yr_len rfl Try.underlying23 rfl) ?_
  refine vr (yr_assign rfl rfl) ?_
  refine VL.nil (VE.then_wp (V.seq (V.region ?_)))
  refine vr (yr_move rfl rfl) ?_
  refine VL.new1 (.inl rfl) rfl (by decide) (yn_makeSlicez 1 rfl rfl Try.underlying23 elt26_Solve rfl rfl rfl (by omega) (by omega)) ?_
  intro b17
  refine vr (yr_assign rfl rfl) ?_
  refine VL.nil (VE.then_wp (V.seq (V.seq (V.region ?_))))
  refine vr (yr_assign (u := .int .i64 0) rfl rfl) ?_
  refine VL.nil (VE.then_wp (V.block ?_))
  refine V.loopc (G := Nat × (List Nat)) [(0, _), (1, _), (5, _), (6, _)] (fun ⟨j, y⟩ => j ≤ n ∧ y.length = n ∧ ∀ t, t < j → y.getD t 0 = fwdF l n bs j t) (fun ⟨j, y⟩ => [⟨some ⟨b17, 0, none⟩, fl y, n * 1, 26⟩]) (fun ⟨j, y⟩ => [(7, .int .i64 (j : Int))]) (fun ⟨j, y⟩ => n - j) (0, List.replicate n 0) (.cons rfl (.cons rfl (.cons rfl (.cons rfl .nil)))) (.cons rfl .nil) ?_ ?_ ?_
  · exact (fun w hw => by rw [fl_zeros] at hw; exact hw)
  · exact (by simp)
  rintro ⟨j, y⟩ ⟨hj, hyl, hy⟩
  show V _ _ _ [⟨some ⟨b17, 0, none⟩, fl y, n * 1, 26⟩] ([(7, .int .i64 (j : Int))] ++ [(0, _), (1, _), (5, _), (6, _)]) _ _
  refine V.seq (V.seq (V.region ?_))
  refine vr (yr_move rfl rfl) ?_
  refine vr (yr_move rfl rfl) ?_
  refine vr (yr_icmp rfl (.inr (.inr (.inl rfl))) rfl rfl) ?_
  refine VL.nil (VE.then_wp ?_)
  refine V.cond rfl (fun h1 => ?_) (fun h1 => ?_)
  · skip
    replace h1 := ic_lss h1
    refine V.skip (VE.then_wp (V.seq (V.block (V.seq (V.region ?_)))))
    refine vr (yr_move rfl rfl) ?_
    refine vr (yr_move rfl rfl) ?_
    refine vq (yq_idx (k := j) rfl Try.underlying23 sz26_Solve rfl rfl zz0 zz3 zz10 (by omega)) ?_
    refine vq (yq_loadF rfl fb26_Solve rfl zz0 (by omega)) ?_
    refine vr (yr_assign rfl rfl) ?_
    refine VL.nil (VE.then_wp (V.seq (V.seq (V.region ?_))))
    refine vr (yr_assign (u := .int .i64 0) rfl rfl) ?_
    refine VL.nil (VE.then_wp (V.block ?_))
    refine V.loops (G := Nat) [(0, _), (1, _), (5, _), (6, _), (7, _)] (fun (k : Nat) => k ≤ j) (fun (k : Nat) => [(8, .float .f32 (fwdS l n j (fwdF l n bs j) (bs.getD j 0) k)), (9, .int .i64 (k : Int))]) (fun (k : Nat) => j - k) 0 (.cons rfl (.cons rfl (.cons rfl (.cons rfl (.cons rfl .nil))))) (.cons rfl (.cons rfl .nil)) ?_ ?_
    · exact (by omega)
    rintro k hk
    show V _ _ _ _ ([(8, .float .f32 (fwdS l n j (fwdF l n bs j) (bs.getD j 0) k)), (9, .int .i64 (k : Int))] ++ [(0, _), (1, _), (5, _), (6, _), (7, _)]) _ _
    have hjj : j < n → j * n + j < n * n := fun h => hix h h
    have hjk : j < n → k < j → j * n + k < n * n := fun h g => hix h (by omega)
    refine V.seq (V.seq (V.region ?_))
    refine vr (yr_move rfl rfl) ?_
    refine vr (yr_move rfl rfl) ?_
    refine vr (yr_icmp rfl (.inr (.inr (.inl rfl))) rfl rfl) ?_
    refine VL.nil (VE.then_wp ?_)
    refine V.cond rfl (fun h2 => ?_) (fun h2 => ?_)
    · skip
      replace h2 := ic_lss h2
      refine V.skip (VE.then_wp (V.seq (V.block ?_)))
      refine V.draw [(0, 0), (1, 0), (2, 0), (3, 0), (4, 0), (5, 0), (6, 0), (7, 0), (8, 0), (9, 0), (10, 0), (11, 0), (12, 0), (13, 0), (14, 0), (15, 0)] mixed_Solve (by kernel_rfl) (by intro j o hj; simp at hj) ?_
      refine sr rfl (yr_move rfl rfl) ?_
      refine sr rfl (yr_move rfl rfl) ?_
      refine sr rfl (yr_move rfl rfl) ?_
      refine sr rfl (yr_move rfl rfl) ?_
      refine sr rfl (yr_mulN j n rfl rfl rfl (by omega) (by omega) (Nat.le_trans (mul_small (by omega) (by omega)) (by decide))) ?_
      refine sr rfl (yr_move rfl rfl) ?_
      refine sr rfl (yr_int rfl rfl rfl (.inl ⟨rfl, wrap_in (by omega)⟩)) ?_
      refine sq rfl (yq_idx (k := ((j * n) + k)) rfl Try.underlying23 sz26_Solve rfl rfl zz0 zz3 zz10 (by omega)) ?_
      refine sq rfl (yq_loadF rfl fb26_Solve rfl zz0 (by omega)) ?_
      refine sr rfl (yr_move rfl rfl) ?_
      refine sr rfl (yr_move rfl rfl) ?_
      refine sq rfl (yq_idx (k := k) rfl Try.underlying23 sz26_Solve rfl rfl zz0 zz3 zz10 (by omega)) ?_
      refine sq rfl (yq_loadF rfl fb26_Solve rfl zz0 (by omega)) ?_
      refine sr rfl (yr_float rfl (.inr (.inr (.inl rfl))) rfl rfl) ?_
      refine sr rfl (yr_float rfl (.inr (.inl rfl)) rfl rfl) ?_
      refine sr rfl (yr_assign rfl rfl) ?_
      refine SW.done ?_
      refine VE.block_normal (VE.then_wp (V.region ?_))
      refine vr (yr_move rfl rfl) ?_
      refine vr (yr_int rfl rfl rfl (.inl ⟨rfl, wrap_in (by omega)⟩)) ?_
      refine vr (yr_assign rfl rfl) ?_
      refine VL.nil ?_
      refine VE.round (k + 1) ?_ ?_ ?_ ?_ ?_
      · exact (.cons (congrArg (fun x => some (Value.float .f32 x)) (by rw [fwdS, hy k (by omega)])) (.cons rfl .nil))
      · exact (.cons rfl (.cons rfl (.cons rfl (.cons rfl (.cons rfl .nil)))))
      · exact (fun w hw => hw)
      · omega
      · (try dsimp only); omega
    replace h2 := ic_lss' h2
    refine V.exit ?_
    refine VE.then_exit (VE.then_exit (VE.block_here (VE.then_wp (V.region ?_))))
    refine vr (yr_move rfl rfl) ?_
    refine vr (yr_move rfl rfl) ?_
    refine vr (yr_move rfl rfl) ?_
    refine vr (yr_move rfl rfl) ?_
    refine vr (yr_move rfl rfl) ?_
    refine vr (yr_move rfl rfl) ?_
    refine vr (yr_mulN j n rfl rfl rfl (by omega) (by omega) (Nat.le_trans (mul_small (by omega) (by omega)) (by decide))) ?_
    refine vr (yr_move rfl rfl) ?_
    refine vr (yr_int rfl rfl rfl (.inl ⟨rfl, wrap_in (by omega)⟩)) ?_
    refine vq (yq_idx (k := ((j * n) + j)) rfl Try.underlying23 sz26_Solve rfl rfl zz0 zz3 zz10 (by omega)) ?_
    refine vq (yq_loadF rfl fb26_Solve rfl zz0 (by omega)) ?_
    refine vr (yr_float rfl (.inr (.inr (.inr rfl))) rfl rfl) ?_
    refine vq (yq_idx (k := j) rfl Try.underlying23 sz26_Solve rfl rfl zz0 zz3 zz10 (by omega)) ?_
    refine VL.s (.inl rfl) rfl (yc_store rfl sz26_Solve rfl rfl zz8 (.inl ⟨rfl, rfl⟩) rfl (by rw [fl_length]; omega) (by decide) (fl_set _ _ _)) ?_
    rintro ⟨⟩
    refine VL.nil (VE.block_normal (VE.then_wp (V.region ?_)))
    refine vr (yr_move rfl rfl) ?_
    refine vr (yr_int rfl rfl rfl (.inl ⟨rfl, wrap_in (by omega)⟩)) ?_
    refine vr (yr_assign rfl rfl) ?_
    refine VL.nil ?_
    refine VE.round (j + 1, y.set j (fop .quo .f32 (fwdS l n j (fwdF l n bs j) (bs.getD j 0) k) (l.getD (j * n + j) 0))) ?_ ?_ ?_ ?_ ?_
    · exact (.cons rfl .nil)
    · exact (.cons rfl (.cons rfl (.cons rfl (.cons rfl .nil))))
    · exact (fun w hw => hw)
    · obtain rfl : k = j := by omega
      refine ⟨by omega, by simp [hyl], fun t ht => ?_⟩
      rw [gset (by omega), fwdF]
      split
      · rfl
      · exact hy t (by omega)
    · (try dsimp only); omega
  replace h1 := ic_lss' h1
  refine V.exit ?_
  refine VE.then_exit (VE.then_exit (VE.block_here (VE.then_wp (V.seq (V.region ?_)))))
  refine vr (yr_move rfl rfl) ?_
  refine VL.new1 (.inl rfl) rfl (by decide) (yn_makeSlicez 1 rfl rfl Try.underlying23 elt26_Solve rfl rfl rfl (by omega) (by omega)) ?_
  intro b61
  refine vr (yr_assign rfl rfl) ?_
  refine VL.nil (VE.then_wp (V.seq (V.seq (V.region ?_))))
  refine vr (yr_move rfl rfl) ?_
  refine vr (yr_int rfl rfl rfl (.inr (.inl ⟨rfl, wrap_in (by omega)⟩))) ?_
  refine vr (yr_assign rfl rfl) ?_
  refine VL.nil (VE.then_wp (V.block ?_))
  refine V.loopc (G := Nat × (List Nat)) [(0, _), (5, _), (6, _), (10, _)] (fun ⟨j1, x⟩ => j1 ≤ n ∧ x.length = n ∧ ∀ t, j1 ≤ t → t < n → x.getD t 0 = bwdF l n (fwdF l n bs n) (n - j1) t) (fun ⟨j1, x⟩ => [⟨some ⟨b61, 0, none⟩, fl x, n * 1, 26⟩, ⟨some ⟨b17, 0, none⟩, fl y, n * 1, 26⟩]) (fun ⟨j1, x⟩ => [(11, .int .i64 ((j1 : Int) - 1))]) (fun ⟨j1, x⟩ => j1) (n, List.replicate n 0) (.cons rfl (.cons rfl (.cons rfl (.cons rfl .nil)))) (.cons rfl .nil) ?_ ?_ ?_
  · exact (fun w hw => by rw [fl_zeros] at hw; exact hw)
  · exact (by exact ⟨by omega, by simp, fun t h1 h2 => by omega⟩)
  rintro ⟨j1, x⟩ ⟨hj1, hxl, hx⟩
  show V _ _ _ [⟨some ⟨b61, 0, none⟩, fl x, n * 1, 26⟩, ⟨some ⟨b17, 0, none⟩, fl y, n * 1, 26⟩] ([(11, .int .i64 ((j1 : Int) - 1))] ++ [(0, _), (5, _), (6, _), (10, _)]) _ _
  obtain rfl : n = j := by omega
  refine V.seq (V.seq (V.region ?_))
  refine vr (yr_move rfl rfl) ?_
  refine vr (yr_icmp rfl (.inr (.inr (.inr (.inr (.inr rfl))))) rfl rfl) ?_
  refine VL.nil (VE.then_wp ?_)
  refine V.cond rfl (fun h3 => ?_) (fun h3 => ?_)
  · skip
    replace h3 := ic_geq h3
    refine V.skip (VE.then_wp (V.seq (V.block (V.seq (V.region ?_)))))
    refine vr (yr_move rfl rfl) ?_
    refine vr (yr_move rfl rfl) ?_
    refine vq (yq_idx (k := (j1 - 1)) rfl Try.underlying23 sz26_Solve rfl rfl zz0 zz3 zz10 (by omega)) ?_
    refine vq (yq_loadF rfl fb26_Solve rfl zz0 (by omega)) ?_
    refine vr (yr_assign rfl rfl) ?_
    refine VL.nil (VE.then_wp (V.seq (V.seq (V.region ?_))))
    refine vr (yr_move rfl rfl) ?_
    refine vr (yr_int rfl rfl rfl (.inl ⟨rfl, wrap_in (by omega)⟩)) ?_
    refine vr (yr_assign rfl rfl) ?_
    refine VL.nil (VE.then_wp (V.block ?_))
    refine V.loops (G := Nat) [(0, _), (5, _), (6, _), (10, _), (11, _)] (fun (k : Nat) => j1 + k ≤ n) (fun (k : Nat) => [(12, .float .f32 (bwdS l n (j1 - 1) (bwdF l n (fwdF l n bs n) (n - j1)) (fwdF l n bs n (j1 - 1)) k)), (13, .int .i64 ((j1 + k : Nat) : Int))]) (fun (k : Nat) => n - (j1 + k)) 0 (.cons rfl (.cons rfl (.cons rfl (.cons rfl (.cons rfl .nil))))) (.cons (congrArg (fun x => some (Value.float .f32 x)) (by rw [bwdS, hy _ (by omega)])) (.cons (congrArg (fun i => some (Value.int .i64 i)) (by omega)) .nil)) ?_ ?_
    · exact (by omega)
    rintro k hk
    show V _ _ _ _ ([(12, .float .f32 (bwdS l n (j1 - 1) (bwdF l n (fwdF l n bs n) (n - j1)) (fwdF l n bs n (j1 - 1)) k)), (13, .int .i64 ((j1 + k : Nat) : Int))] ++ [(0, _), (5, _), (6, _), (10, _), (11, _)]) _ _
    have hjj : (j1 - 1) * n + (j1 - 1) < n * n := hix (by omega) (by omega)
    have hjk : j1 + k < n → (j1 + k) * n + (j1 - 1) < n * n := fun h => hix h (by omega)
    refine V.seq (V.seq (V.region ?_))
    refine vr (yr_move rfl rfl) ?_
    refine vr (yr_move rfl rfl) ?_
    refine vr (yr_icmp rfl (.inr (.inr (.inl rfl))) rfl rfl) ?_
    refine VL.nil (VE.then_wp ?_)
    refine V.cond rfl (fun h4 => ?_) (fun h4 => ?_)
    · skip
      replace h4 := ic_lss h4
      refine V.skip (VE.then_wp (V.seq (V.block ?_)))
      refine V.draw [(0, 0), (1, 0), (2, 0), (3, 0), (4, 0), (5, 0), (6, 0), (7, 0), (8, 0), (9, 0), (10, 0), (11, 0), (12, 0), (13, 0), (14, 0), (15, 0)] mixed_Solve (by kernel_rfl) (by intro j o hj; simp at hj) ?_
      refine sr rfl (yr_move rfl rfl) ?_
      refine sr rfl (yr_move rfl rfl) ?_
      refine sr rfl (yr_move rfl rfl) ?_
      refine sr rfl (yr_move rfl rfl) ?_
      refine sr rfl (yr_mulN (j1 + k) n rfl rfl rfl (by omega) (by omega) (Nat.le_trans (mul_small (by omega) (by omega)) (by decide))) ?_
      refine sr rfl (yr_move rfl rfl) ?_
      refine sr rfl (yr_int rfl rfl rfl (.inl ⟨rfl, wrap_in (by omega)⟩)) ?_
      refine sq rfl (yq_idx (k := (((j1 + k) * n) + (j1 - 1))) rfl Try.underlying23 sz26_Solve rfl rfl zz0 zz3 zz10 (by omega)) ?_
      refine sq rfl (yq_loadF rfl fb26_Solve rfl zz0 (by omega)) ?_
      refine sr rfl (yr_move rfl rfl) ?_
      refine sr rfl (yr_move rfl rfl) ?_
      refine sq rfl (yq_idx (k := (j1 + k)) rfl Try.underlying23 sz26_Solve rfl rfl zz0 zz3 zz10 (by omega)) ?_
      refine sq rfl (yq_loadF rfl fb26_Solve rfl zz0 (by omega)) ?_
      refine sr rfl (yr_float rfl (.inr (.inr (.inl rfl))) rfl rfl) ?_
      refine sr rfl (yr_float rfl (.inr (.inl rfl)) rfl rfl) ?_
      refine sr rfl (yr_assign rfl rfl) ?_
      refine SW.done ?_
      refine VE.block_normal (VE.then_wp (V.region ?_))
      refine vr (yr_move rfl rfl) ?_
      refine vr (yr_int rfl rfl rfl (.inl ⟨rfl, wrap_in (by omega)⟩)) ?_
      refine vr (yr_assign rfl rfl) ?_
      refine VL.nil ?_
      refine VE.round (k + 1) ?_ ?_ ?_ ?_ ?_
      · exact (.cons (congrArg (fun x => some (Value.float .f32 x)) (by rw [bwdS, show j1 - 1 + 1 + k = j1 + k by omega, hx _ (by omega) (by omega)])) (.cons (congrArg (fun i => some (Value.int .i64 i)) (by omega)) .nil))
      · exact (.cons rfl (.cons rfl (.cons rfl (.cons rfl (.cons rfl .nil)))))
      · exact (fun w hw => hw)
      · omega
      · (try dsimp only); omega
    replace h4 := ic_lss' h4
    refine V.exit ?_
    refine VE.then_exit (VE.then_exit (VE.block_here (VE.then_wp (V.region ?_))))
    refine vr (yr_move rfl rfl) ?_
    refine vr (yr_move rfl rfl) ?_
    refine vr (yr_move rfl rfl) ?_
    refine vr (yr_move rfl rfl) ?_
    refine vr (yr_move rfl rfl) ?_
    refine vr (yr_move rfl rfl) ?_
    refine vr (yr_mulN (j1 - 1) n rfl rfl rfl (by omega) (by omega) (Nat.le_trans (mul_small (by omega) (by omega)) (by decide))) ?_
    refine vr (yr_move rfl rfl) ?_
    refine vr (yr_int rfl rfl rfl (.inl ⟨rfl, wrap_in (by omega)⟩)) ?_
    refine vq (yq_idx (k := (((j1 - 1) * n) + (j1 - 1))) rfl Try.underlying23 sz26_Solve rfl rfl zz0 zz3 zz10 (by omega)) ?_
    refine vq (yq_loadF rfl fb26_Solve rfl zz0 (by omega)) ?_
    refine vr (yr_float rfl (.inr (.inr (.inr rfl))) rfl rfl) ?_
    refine vq (yq_idx (k := (j1 - 1)) rfl Try.underlying23 sz26_Solve rfl rfl zz0 zz3 zz10 (by omega)) ?_
    refine VL.s (.inl rfl) rfl (yc_store rfl sz26_Solve rfl rfl zz8 (.inl ⟨rfl, rfl⟩) rfl (by rw [fl_length]; omega) (by decide) (fl_set _ _ _)) ?_
    rintro ⟨⟩
    refine VL.nil (VE.block_normal (VE.then_wp (V.region ?_)))
    refine vr (yr_move rfl rfl) ?_
    refine vr (yr_int rfl rfl rfl (.inr (.inl ⟨rfl, wrap_in (by omega)⟩))) ?_
    refine vr (yr_assign rfl rfl) ?_
    refine VL.nil ?_
    refine VE.round (j1 - 1, x.set (j1 - 1) (fop .quo .f32 (bwdS l n (j1 - 1) (bwdF l n (fwdF l n bs n) (n - j1)) (fwdF l n bs n (j1 - 1)) k) (l.getD ((j1 - 1) * n + (j1 - 1)) 0))) ?_ ?_ ?_ ?_ ?_
    · exact (.cons (congrArg (fun i => some (Value.int .i64 i)) (by omega)) .nil)
    · exact (.cons rfl (.cons rfl (.cons rfl (.cons rfl .nil))))
    · exact (fun w hw => hw)
    · obtain ⟨j0, rfl⟩ : ∃ j0, j1 = j0 + 1 := ⟨j1 - 1, by omega⟩
      obtain rfl : k = n - (j0 + 1) := by omega
      simp only [Nat.add_sub_cancel]
      refine ⟨by omega, by simp [hxl], fun t h1 h2 => ?_⟩
      rw [gset (by omega), bwdF_succ l n _ (by omega)]
      split
      · rfl
      · exact hx t (by omega) h2
    · (try dsimp only); omega
  replace h3 := ic_geq' h3
  refine V.exit ?_
  refine VE.then_exit (VE.then_exit (VE.block_here (VE.then_wp (V.seq (V.region ?_)))))
  refine vr (yr_move rfl rfl) ?_
  refine vr (yr_assign rfl rfl) ?_
  refine VL.nil (VE.then_wp (V.ret ?_))
  refine ret1 rfl rfl (fun w1 hw => ?_)
  obtain rfl : j1 = 0 := by omega
  have hxs : x = solve l bs n := by
    refine ext_getD (by rw [hxl, solve_length]) fun i hi => ?_
    rw [hx i (by omega) (by omega)]
    unfold solve
    rw [getD_range _ _ (by omega)]
    rfl
  subst hxs
  exact ⟨_, rfl, hw.out1⟩
theorem c_specSolve [PhC] {w : World} {a b : Option Addr} {c d : Nat} {l bs : List Nat} (hA : Cl w a (fl l)) (hB : Cl w b (fl bs)) (hln : l.length ≤ 1050000) (hbn : bs.length ≤ 1050000) : New Try.prog 51 [.slice a l.length c, .slice b bs.length d] w (fun p : Option Addr × Nat => .tuple #[.slice p.1 (solveOf l bs).length p.2, .bool (solveOk l bs)]) (fun p => [⟨p.1, fl (solveOf l bs), p.2 * 1, 26⟩]) := by
  obtain ⟨n, hn⟩ : ∃ n, n = side l.length := ⟨_, rfl⟩
  have hn8 : n ≤ 8 := by rw [hn]; exact side_le _
  have hnn : n * n ≤ 64 := Nat.mul_le_mul hn8 hn8
  have hix : ∀ {j k : Nat}, j < n → k < n → j * n + k < n * n := idx_lt
  refine New.enter Try.func51 rfl Try.ntmps51 (Nat.le_of_ble_eq_true rfl) ?_
  refine V.seq (V.region ?_)
  refine vr (yr_assign (u := .slice none 0 0) rfl rfl) ?_
  refine vr (yr_assign (u := .bool false) rfl rfl) ?_
  refine VL.nil (VE.then_wp (V.seq (V.region ?_)))
  refine vr (yr_move rfl rfl) ?_
  refine vr (yr_len rfl Try.underlying23 rfl) ?_
  refine vq (yq_callf rfl known87_Solve (.cons rfl .nil) (fun w hw => (c_l07Side (by assumption) (by omega)))) ?_
  refine vr (yr_assign rfl rfl) ?_
  refine VL.nil (VE.then_wp (V.seq (V.seq (V.region ?_))))
  refine vr (yr_move rfl rfl) ?_
  refine vr (yr_icmp rfl (.inl rfl) rfl rfl) ?_
  refine vr (yr_move rfl rfl) ?_
  refine VX.split 13 _ rfl (fun h1 => ?_) (fun h1 => ?_)
  · skip
    replace h1 := ic_eql h1
    refine vn ?_
    refine vn ?_
    refine vn ?_
    refine vn ?_
    refine vr (yr_pick_t (u := .bool true) rfl rfl rfl) ?_
    refine VL.nil (VE.then_wp ?_)
    refine V.condT rfl ?_
    refine V.seq (V.region ?_)
    refine vr (yr_assign (u := .slice none 0 0) rfl rfl) ?_
    refine vr (yr_assign (u := .bool false) rfl rfl) ?_
    refine VL.nil (VE.then_wp (V.ret (VE.then_ret ?_)))
    refine ret2 rfl rfl rfl (by nofun) (by nofun) (fun w1 hw => ?_)
    have hs : solveOk l bs = false := ok_no0 (by rw [← hn]; omega)
    exact ⟨(none, 0), by rw [solveOf_no hs, hs]; rfl, hw.below, by rw [solveOf_no hs]; simp [fl, Ent.at], List.pairwise_singleton _ _⟩
  replace h1 := ic_eql' h1
  have hl : l.length = n * n := by rw [hn]; exact (side_mul (by rw [← hn]; omega)).symm
  refine VL.r (.inr ⟨_, _, _, rfl, rfl, rfl⟩) rfl (by decide) (yr_move rfl rfl) ?_
  refine VL.r (.inr ⟨_, _, _, rfl, rfl, rfl⟩) rfl (by decide) (yr_len rfl Try.underlying23 rfl) ?_
  refine VL.r (.inr ⟨_, _, _, rfl, rfl, rfl⟩) rfl (by decide) (yr_move rfl rfl) ?_
  refine VL.r (.inr ⟨_, _, _, rfl, rfl, rfl⟩) rfl (by decide) (yr_icmp rfl (.inr (.inl rfl)) rfl rfl) ?_
  refine vr (yr_pick_f rfl rfl rfl) ?_
  refine VL.nil (VE.then_wp ?_)
  refine V.cond rfl (fun h3 => ?_) (fun h3 => ?_)
  · skip
    replace h3 := ic_neq h3
    refine V.seq (V.region ?_)
    refine vr (yr_assign (u := .slice none 0 0) rfl rfl) ?_
    refine vr (yr_assign (u := .bool false) rfl rfl) ?_
    refine VL.nil (VE.then_wp (V.ret (VE.then_ret ?_)))
    refine ret2 rfl rfl rfl (by nofun) (by nofun) (fun w1 hw => ?_)
    have hs : solveOk l bs = false := ok_no1 (by rw [← hn]; omega)
    exact ⟨(none, 0), by rw [solveOf_no hs, hs]; rfl, hw.below, by rw [solveOf_no hs]; simp [fl, Ent.at], List.pairwise_singleton _ _⟩
  replace h3 := ic_neq' h3
  refine V.skip (VE.then_wp (V.seq (V.seq (V.region ?_))))
  refine vr (yr_assign (u := .int .i64 0) rfl rfl) ?_
  refine VL.nil (VE.then_wp (V.block ?_))
  refine V.loops (G := Nat) [(0, _), (1, _), (6, _)] (fun (j : Nat) => j ≤ n ∧ ∀ t, t < j → fcmp .eql .f32 (l.getD (t * n + t) 0) 0 = false) (fun (j : Nat) => [(7, .int .i64 (j : Int))]) (fun (j : Nat) => n - j) 0 (.cons rfl (.cons rfl (.cons rfl .nil))) (.cons rfl .nil) ?_ ?_
  · exact (by exact ⟨by omega, fun t h => by omega⟩)
  rintro j ⟨hj, hc⟩
  show V _ _ _ _ ([(7, .int .i64 (j : Int))] ++ [(0, _), (1, _), (6, _)]) _ _
  have hjj : j < n → j * n + j < n * n := fun h => hix h h
  refine V.seq (V.seq (V.region ?_))
  refine vr (yr_move rfl rfl) ?_
  refine vr (yr_move rfl rfl) ?_
  refine vr (yr_icmp rfl (.inr (.inr (.inl rfl))) rfl rfl) ?_
  refine VL.nil (VE.then_wp ?_)
  refine V.cond rfl (fun h4 => ?_) (fun h4 => ?_)
  · skip
    replace h4 := ic_lss h4
    refine V.skip (VE.then_wp (V.seq (V.block (V.seq (V.region ?_)))))
    refine vr (yr_move rfl rfl) ?_
    refine vr (yr_move rfl rfl) ?_
    refine vr (yr_move rfl rfl) ?_
    refine vr (yr_mulN j n rfl rfl rfl (by omega) (by omega) (Nat.le_trans (mul_small (by omega) (by omega)) (by decide))) ?_
    refine vr (yr_move rfl rfl) ?_
    refine vr (yr_int rfl rfl rfl (.inl ⟨rfl, wrap_in (by omega)⟩)) ?_
    refine vq (yq_idx (k := ((j * n) + j)) rfl Try.underlying23 sz26_Solve rfl rfl zz0 zz3 zz10 (by omega)) ?_
    refine vq (yq_loadF rfl fb26_Solve rfl zz0 (by omega)) ?_
    refine vr (yr_fcmp (b := 0) rfl (.inl rfl) rfl rfl) ?_
    refine VL.nil (VE.then_wp ?_)
    refine V.cond rfl (fun h5 => ?_) (fun h5 => ?_)
    · skip
      refine V.seq (V.region ?_)
      refine vr (yr_assign (u := .slice none 0 0) rfl rfl) ?_
      refine vr (yr_assign (u := .bool false) rfl rfl) ?_
      refine VL.nil (VE.then_wp (V.ret ?_))
      refine VE.block_ret ?_
      refine VE.then_ret (VE.then_ret ?_)
      refine VE.block_ret ?_
      refine VE.then_ret ?_
      refine ret2 rfl rfl rfl (by nofun) (by nofun) (fun w1 hw => ?_)
      have hs : solveOk l bs = false := ok_no2 (j := j) (by rw [← hn]; omega) (by rw [← hn]; assumption)
      exact ⟨(none, 0), by rw [solveOf_no hs, hs]; rfl, hw.below, by rw [solveOf_no hs]; simp [fl, Ent.at], List.pairwise_singleton _ _⟩
    refine V.skip (VE.block_normal (VE.then_wp (V.region ?_)))
    refine vr (yr_move rfl rfl) ?_
    refine vr (yr_int rfl rfl rfl (.inl ⟨rfl, wrap_in (by omega)⟩)) ?_
    refine vr (yr_assign rfl rfl) ?_
    refine VL.nil ?_
    refine VE.round (j + 1) ?_ ?_ ?_ ?_ ?_
    · exact (.cons rfl .nil)
    · exact (.cons rfl (.cons rfl (.cons rfl .nil)))
    · exact (fun w hw => hw)
    · exact ⟨by omega, fun t ht => by rcases Nat.lt_or_ge t j with g | g; exact hc t g; obtain rfl : t = j := (by omega); assumption⟩
    · (try dsimp only); omega
  replace h4 := ic_lss' h4
  refine V.exit ?_
  refine VE.then_exit (VE.then_exit (VE.block_here (VE.then_wp (V.seq (V.region ?_)))))
  refine vr (yr_move rfl rfl) ?_
  refine vr (yr_move rfl rfl) ?_
  refine VL.new1 (.inl rfl) rfl (by decide) (yn_callf rfl known88_Solve (.cons rfl (.cons rfl .nil)) (fun w hw => (c_l07Solve zz1 zz1 (by omega) (by omega) (by omega)))) ?_
  intro b35
  refine vr (yr_assign rfl rfl) ?_
  refine vr (yr_assign (u := .bool true) rfl rfl) ?_
  refine VL.nil (VE.then_wp (V.ret ?_))
  refine ret2 rfl rfl rfl (by nofun) (by nofun) (fun w1 hw => ?_)
  have hs : solveOk l bs = true := ok_yes (by rw [← hn]; omega) (by rw [← hn]; omega) (by rw [← hn]; exact fun t ht => hc t (by omega))
  have hso : solveOf l bs = solve l bs n := by rw [solveOf_yes hs, ← hn]
  exact ⟨(some ⟨b35, 0, none⟩, n), by rw [hso, hs, solve_length], by rw [hso]; exact hw.out1⟩
theorem c_implSolve [PhC] {w : World} {a b : Option Addr} {c d : Nat} {l bs : List Nat} (hA : Cl w a (fl l)) (hB : Cl w b (fl bs)) (hln : l.length ≤ 1050000) (hbn : bs.length ≤ 1050000) : New Try.prog 26 [.slice a l.length c, .slice b bs.length d] w (fun p : Option Addr × Nat => .tuple #[.slice p.1 (solveOf l bs).length p.2, .bool (solveOk l bs)]) (fun p => [⟨p.1, fl (solveOf l bs), p.2 * 1, 26⟩]) := by
  obtain ⟨n, hn⟩ : ∃ n, n = side l.length := ⟨_, rfl⟩
  have hn8 : n ≤ 8 := by rw [hn]; exact side_le _
  have hnn : n * n ≤ 64 := Nat.mul_le_mul hn8 hn8
  have hix : ∀ {j k : Nat}, j < n → k < n → j * n + k < n * n := idx_lt
  refine New.enter Try.func26 rfl Try.ntmps26 (Nat.le_of_ble_eq_true rfl) ?_
  refine V.seq (V.region ?_)
  refine vr (yr_assign (u := .slice none 0 0) rfl rfl) ?_
  refine vr (yr_assign (u := .bool false) rfl rfl) ?_
  refine VL.nil (VE.then_wp (V.seq (V.region ?_)))
  refine vr (yr_move rfl rfl) ?_
  refine vq (yq_callf rfl known58_Solve (.cons rfl .nil) (fun w hw => (c_sideOf hn (by omega)))) ?_
  refine vr (yr_move rfl rfl) ?_
  refine vr (yr_extract rfl rfl rfl (by nofun)) ?_
  refine vr (yr_extract rfl rfl rfl (by nofun)) ?_
  refine vr (yr_assign rfl rfl) ?_
  refine vr (yr_assign rfl rfl) ?_
  refine VL.nil (VE.then_wp (V.seq (V.seq (V.region ?_))))
  refine vr (yr_move rfl rfl) ?_
  refine vr (yr_not rfl rfl) ?_
  refine vr (yr_move rfl rfl) ?_
  refine VX.split 21 _ rfl (fun h1 => ?_) (fun h1 => ?_)
  · skip
    replace h1 := bnot_t h1
    replace h1 := of_decide_eq_false h1
    refine vn ?_
    refine vn ?_
    refine vn ?_
    refine vn ?_
    refine vr (yr_pick_t (u := .bool true) rfl rfl rfl) ?_
    refine VL.nil (VE.then_wp ?_)
    refine V.condT rfl ?_
    refine V.seq (V.region ?_)
    refine vr (yr_assign (u := .slice none 0 0) rfl rfl) ?_
    refine vr (yr_assign (u := .bool false) rfl rfl) ?_
    refine VL.nil (VE.then_wp (V.ret (VE.then_ret ?_)))
    refine ret2 rfl rfl rfl (by nofun) (by nofun) (fun w1 hw => ?_)
    have hs : solveOk l bs = false := ok_no0 (by rw [← hn]; omega)
    exact ⟨(none, 0), by rw [solveOf_no hs, hs]; rfl, hw.below, by rw [solveOf_no hs]; simp [fl, Ent.at], List.pairwise_singleton _ _⟩
  replace h1 := bnot_f h1
  replace h1 := of_decide_eq_true h1
  have hl : l.length = n * n := by rw [hn]; exact (side_mul (by rw [← hn]; omega)).symm
  refine VL.r (.inr ⟨_, _, _, rfl, rfl, rfl⟩) rfl (by decide) (yr_move rfl rfl) ?_
  refine VL.r (.inr ⟨_, _, _, rfl, rfl, rfl⟩) rfl (by decide) (yr_len rfl Try.underlying23 rfl) ?_
  refine VL.r (.inr ⟨_, _, _, rfl, rfl, rfl⟩) rfl (by decide) (yr_move rfl rfl) ?_
  refine VL.r (.inr ⟨_, _, _, rfl, rfl, rfl⟩) rfl (by decide) (yr_icmp rfl (.inr (.inl rfl)) rfl rfl) ?_
  refine vr (yr_pick_f rfl rfl rfl) ?_
  refine VL.nil (VE.then_wp ?_)
  refine V.cond rfl (fun h3 => ?_) (fun h3 => ?_)
  · skip
    replace h3 := ic_neq h3
    refine V.seq (V.region ?_)
    refine vr (yr_assign (u := .slice none 0 0) rfl rfl) ?_
    refine vr (yr_assign (u := .bool false) rfl rfl) ?_
    refine VL.nil (VE.then_wp (V.ret (VE.then_ret ?_)))
    refine ret2 rfl rfl rfl (by nofun) (by nofun) (fun w1 hw => ?_)
    have hs : solveOk l bs = false := ok_no1 (by rw [← hn]; omega)
    exact ⟨(none, 0), by rw [solveOf_no hs, hs]; rfl, hw.below, by rw [solveOf_no hs]; simp [fl, Ent.at], List.pairwise_singleton _ _⟩
  replace h3 := ic_neq' h3
  refine V.skip (VE.then_wp (V.seq (V.seq (V.region ?_))))
  refine vr (yr_move rfl rfl) ?_
  refine vr (yr_move (u := .int .i64 0) rfl rfl) ?_
  refine VL.nil (VE.then_wp (V.block ?_))
  refine V.loops (G := Nat) [(0, _), (1, _), (6, _), (27, _)] (fun (j : Nat) => j ≤ n ∧ ∀ t, t < j → fcmp .eql .f32 (l.getD (t * n + t) 0) 0 = false) (fun (j : Nat) => [(28, .int .i64 (j : Int))]) (fun (j : Nat) => n - j) 0 (.cons rfl (.cons rfl (.cons rfl (.cons rfl .nil)))) (.cons rfl .nil) ?_ ?_
  · exact (by exact ⟨by omega, fun t h => by omega⟩)
  rintro j ⟨hj, hc⟩
  show V _ _ _ _ ([(28, .int .i64 (j : Int))] ++ [(0, _), (1, _), (6, _), (27, _)]) _ _
  have hjj : j < n → j * n + j < n * n := fun h => hix h h
  refine V.seq (V.region ?_)
  refine vr (yr_icmp rfl (.inr (.inr (.inl rfl))) rfl rfl) ?_
  refine VL.nil (VE.then_wp (V.seq ?_))
  refine V.cond rfl (fun h4 => ?_) (fun h4 => ?_)
  · skip
    replace h4 := ic_lss h4
    refine V.skip (VE.then_wp (V.seq (V.block (V.seq (V.region ?_)))))
    refine vr (yr_move rfl rfl) ?_
    refine vr (yr_assign rfl rfl) ?_
    refine VL.nil (VE.then_wp (V.seq (V.region ?_)))
    refine vr (yr_move rfl rfl) ?_
    refine vr (yr_move rfl rfl) ?_
    refine vr (yr_move rfl rfl) ?_
    refine vr (yr_mulN j n rfl rfl rfl (by omega) (by omega) (Nat.le_trans (mul_small (by omega) (by omega)) (by decide))) ?_
    refine vr (yr_move rfl rfl) ?_
    refine vr (yr_int rfl rfl rfl (.inl ⟨rfl, wrap_in (by omega)⟩)) ?_
    refine vq (yq_idx (k := ((j * n) + j)) rfl Try.underlying23 sz26_Solve rfl rfl zz0 zz3 zz10 (by omega)) ?_
    refine vq (yq_loadF rfl fb26_Solve rfl zz0 (by omega)) ?_
    refine vr (yr_fcmp (b := 0) rfl (.inl rfl) rfl rfl) ?_
    refine VL.nil (VE.then_wp ?_)
    refine V.cond rfl (fun h5 => ?_) (fun h5 => ?_)
    · skip
      refine V.seq (V.region ?_)
      refine vr (yr_assign (u := .slice none 0 0) rfl rfl) ?_
      refine vr (yr_assign (u := .bool false) rfl rfl) ?_
      refine VL.nil (VE.then_wp (V.ret ?_))
      refine VE.block_ret ?_
      refine VE.then_ret (VE.then_ret ?_)
      refine VE.block_ret ?_
      refine VE.then_ret ?_
      refine ret2 rfl rfl rfl (by nofun) (by nofun) (fun w1 hw => ?_)
      have hs : solveOk l bs = false := ok_no2 (j := j) (by rw [← hn]; omega) (by rw [← hn]; assumption)
      exact ⟨(none, 0), by rw [solveOf_no hs, hs]; rfl, hw.below, by rw [solveOf_no hs]; simp [fl, Ent.at], List.pairwise_singleton _ _⟩
    refine V.skip (VE.block_normal (VE.then_wp (V.region ?_)))
    refine vr (yr_int rfl rfl rfl (.inl ⟨rfl, wrap_in (by omega)⟩)) ?_
    refine vr (yr_move rfl rfl) ?_
    refine VL.nil ?_
    refine VE.round (j + 1) ?_ ?_ ?_ ?_ ?_
    · exact (.cons rfl .nil)
    · exact (.cons rfl (.cons rfl (.cons rfl (.cons rfl .nil))))
    · exact (fun w hw => hw)
    · exact ⟨by omega, fun t ht => by rcases Nat.lt_or_ge t j with g | g; exact hc t g; obtain rfl : t = j := (by omega); assumption⟩
    · (try dsimp only); omega
  replace h4 := ic_lss' h4
  refine V.exit ?_
  refine VE.then_exit (VE.then_exit (VE.block_here (VE.then_wp (V.seq (V.region ?_)))))
  refine vr (yr_move rfl rfl) ?_
  refine VL.new1 (.inl rfl) rfl (by decide) (yn_callf rfl known60_Solve (.cons rfl .nil) (fun w hw => c_cloneF zz1 (by omega))) ?_
  rintro ⟨a42, c42⟩
  refine vr (yr_assign rfl rfl) ?_
  refine VL.nil (VE.then_wp (V.seq (V.seq (V.region ?_))))
  refine vr (yr_move rfl rfl) ?_
  refine vr (yr_move (u := .int .i64 0) rfl rfl) ?_
  refine VL.nil (VE.then_wp (V.block ?_))
  refine V.loopc (G := Nat × (List Nat)) [(0, _), (6, _), (9, _), (43, _)] (fun ⟨j, x⟩ => j ≤ n ∧ x.length = n ∧ ∀ t, t < n → x.getD t 0 = fwdF l n bs j t) (fun ⟨j, x⟩ => [⟨a42, fl x, c42 * 1, 26⟩]) (fun ⟨j, x⟩ => [(44, .int .i64 (j : Int))]) (fun ⟨j, x⟩ => n - j) (0, bs) (.cons rfl (.cons rfl (.cons rfl (.cons rfl .nil)))) (.cons rfl .nil) ?_ ?_ ?_
  · exact (fun w hw => hw)
  · exact (by exact ⟨by omega, by omega, fun t h => rfl⟩)
  rintro ⟨j, x⟩ ⟨hj, hxl, hx⟩
  show V _ _ _ [⟨a42, fl x, c42 * 1, 26⟩] ([(44, .int .i64 (j : Int))] ++ [(0, _), (6, _), (9, _), (43, _)]) _ _
  have hjj : j < n → j * n + j < n * n := fun h => hix h h
  refine V.seq (V.region ?_)
  refine vr (yr_icmp rfl (.inr (.inr (.inl rfl))) rfl rfl) ?_
  refine VL.nil (VE.then_wp (V.seq ?_))
  refine V.cond rfl (fun h6 => ?_) (fun h6 => ?_)
  · skip
    replace h6 := ic_lss h6
    refine V.skip (VE.then_wp (V.seq (V.block (V.seq (V.region ?_)))))
    refine vr (yr_move rfl rfl) ?_
    refine vr (yr_assign rfl rfl) ?_
    refine VL.nil (VE.then_wp (V.seq (V.seq (V.region ?_))))
    refine vr (yr_move rfl rfl) ?_
    refine vr (yr_move (u := .int .i64 0) rfl rfl) ?_
    refine VL.nil (VE.then_wp (V.block ?_))
    refine V.loopc (G := Nat × (List Nat)) [(0, _), (6, _), (9, _), (10, _), (43, _), (44, _), (47, _)] (fun ⟨k, z⟩ => k ≤ j ∧ z.length = n ∧ ∀ t, t < n → z.getD t 0 = if t = j then fwdS l n j (fwdF l n bs j) (bs.getD j 0) k else fwdF l n bs j t) (fun ⟨k, z⟩ => [⟨a42, fl z, c42 * 1, 26⟩]) (fun ⟨k, z⟩ => [(48, .int .i64 (k : Int))]) (fun ⟨k, z⟩ => j - k) (0, x) (.cons rfl (.cons rfl (.cons rfl (.cons rfl (.cons rfl (.cons rfl (.cons rfl .nil))))))) (.cons rfl .nil) ?_ ?_ ?_
    · exact (fun w hw => hw)
    · exact (by exact ⟨by omega, hxl, fun t h => by rw [hx t h]; split <;> first | rfl | (rename_i e; subst e; rw [fwdS, fwdF_ge _ _ _ _ _ (Nat.le_refl _)])⟩)
    rintro ⟨k, z⟩ ⟨hk, hzl, hz⟩
    show V _ _ _ [⟨a42, fl z, c42 * 1, 26⟩] ([(48, .int .i64 (k : Int))] ++ [(0, _), (6, _), (9, _), (10, _), (43, _), (44, _), (47, _)]) _ _
    have hjk : j < n → k < j → j * n + k < n * n := fun h g => hix h (by omega)
    refine V.seq (V.region ?_)
    refine vr (yr_icmp rfl (.inr (.inr (.inl rfl))) rfl rfl) ?_
    refine VL.nil (VE.then_wp (V.seq ?_))
    refine V.cond rfl (fun h7 => ?_) (fun h7 => ?_)
    · skip
      replace h7 := ic_lss h7
      refine V.skip (VE.then_wp (V.seq (V.block (V.seq (V.region ?_)))))
      refine vr (yr_move rfl rfl) ?_
      refine vr (yr_assign rfl rfl) ?_
      refine VL.nil (VE.then_wp ?_)
      refine V.draw [(0, 0), (1, 0), (2, 0), (3, 0), (4, 0), (5, 0), (6, 0), (7, 0), (8, 0), (9, 0), (10, 0), (11, 0), (12, 0), (13, 0), (14, 0), (15, 0), (16, 0), (17, 0), (18, 0), (19, 0), (20, 0), (21, 3)] mixed_Solve (by kernel_rfl) (by intro j o hj; simp at hj) ?_
      refine sr rfl (yr_move rfl rfl) ?_
      refine sr rfl (yr_move rfl rfl) ?_
      refine sr rfl (yr_move rfl rfl) ?_
      refine sr rfl (yr_move rfl rfl) ?_
      refine sq rfl (yq_idx (k := j) rfl Try.underlying23 sz26_Solve rfl rfl zz0 zz3 zz10 (by omega)) ?_
      refine sq rfl (yq_loadF rfl fb26_Solve rfl zz0 (by omega)) ?_
      refine sr rfl (yr_move rfl rfl) ?_
      refine sr rfl (yr_move rfl rfl) ?_
      refine sr rfl (yr_move rfl rfl) ?_
      refine sr rfl (yr_mulN j n rfl rfl rfl (by omega) (by omega) (Nat.le_trans (mul_small (by omega) (by omega)) (by decide))) ?_
      refine sr rfl (yr_move rfl rfl) ?_
      refine sr rfl (yr_int rfl rfl rfl (.inl ⟨rfl, wrap_in (by omega)⟩)) ?_
      refine sq rfl (yq_idx (k := ((j * n) + k)) rfl Try.underlying23 sz26_Solve rfl rfl zz0 zz3 zz10 (by omega)) ?_
      refine sq rfl (yq_loadF rfl fb26_Solve rfl zz0 (by omega)) ?_
      refine sr rfl (yr_move rfl rfl) ?_
      refine sr rfl (yr_move rfl rfl) ?_
      refine sq rfl (yq_idx (k := k) rfl Try.underlying23 sz26_Solve rfl rfl zz0 zz3 zz10 (by omega)) ?_
      refine sq rfl (yq_loadF rfl fb26_Solve rfl zz0 (by omega)) ?_
      refine sr rfl (yr_float rfl (.inr (.inr (.inl rfl))) rfl rfl) ?_
      refine sr rfl (yr_float rfl (.inr (.inl rfl)) rfl rfl) ?_
      refine sq rfl (yq_idx (k := j) rfl Try.underlying23 sz26_Solve rfl rfl zz0 zz3 zz10 (by omega)) ?_
      refine SW.s rfl (.inl rfl) rfl (yc_store rfl sz26_Solve rfl rfl zz8 (.inl ⟨rfl, rfl⟩) rfl (by rw [fl_length]; omega) (by decide) (fl_set _ _ _)) ?_
      rintro ⟨⟩
      refine SW.done ?_
      refine VE.block_normal (VE.then_wp (V.region ?_))
      refine vr (yr_int rfl rfl rfl (.inl ⟨rfl, wrap_in (by omega)⟩)) ?_
      refine vr (yr_move rfl rfl) ?_
      refine VL.nil ?_
      refine VE.round (k + 1, z.set j (fop .sub .f32 (z.getD j 0) (fop .mul .f32 (l.getD (j * n + k) 0) (z.getD k 0)))) ?_ ?_ ?_ ?_ ?_
      · exact (.cons rfl .nil)
      · exact (.cons rfl (.cons rfl (.cons rfl (.cons rfl (.cons rfl (.cons rfl (.cons rfl .nil)))))))
      · exact (fun w hw => hw)
      · refine ⟨by omega, by simp [hzl], fun t ht => ?_⟩
        rw [gset (by omega)]
        split
        · rw [hz j (by omega), if_pos rfl, hz k (by omega), if_neg (by omega), fwdS]
        · rw [hz t ht, if_neg (by assumption)]
      · (try dsimp only); omega
    replace h7 := ic_lss' h7
    refine V.exit ?_
    refine VE.then_exit (VE.then_exit (VE.block_here (VE.then_wp ?_)))
    refine V.draw [(0, 0), (1, 0), (2, 0), (3, 0), (4, 0), (5, 0), (6, 0), (7, 0), (8, 0), (9, 0), (10, 0), (11, 0), (12, 0), (13, 0), (14, 0), (15, 0), (16, 3)] mixed_Solve (by kernel_rfl) (by intro j o hj; simp at hj) ?_
    refine sr rfl (yr_move rfl rfl) ?_
    refine sr rfl (yr_move rfl rfl) ?_
    refine sr rfl (yr_move rfl rfl) ?_
    refine sr rfl (yr_move rfl rfl) ?_
    refine sq rfl (yq_idx (k := j) rfl Try.underlying23 sz26_Solve rfl rfl zz0 zz3 zz10 (by omega)) ?_
    refine sq rfl (yq_loadF rfl fb26_Solve rfl zz0 (by omega)) ?_
    refine sr rfl (yr_move rfl rfl) ?_
    refine sr rfl (yr_move rfl rfl) ?_
    refine sr rfl (yr_move rfl rfl) ?_
    refine sr rfl (yr_mulN j n rfl rfl rfl (by omega) (by omega) (Nat.le_trans (mul_small (by omega) (by omega)) (by decide))) ?_
    refine sr rfl (yr_move rfl rfl) ?_
    refine sr rfl (yr_int rfl rfl rfl (.inl ⟨rfl, wrap_in (by omega)⟩)) ?_
    refine sq rfl (yq_idx (k := ((j * n) + j)) rfl Try.underlying23 sz26_Solve rfl rfl zz0 zz3 zz10 (by omega)) ?_
    refine sq rfl (yq_loadF rfl fb26_Solve rfl zz0 (by omega)) ?_
    refine sr rfl (yr_float rfl (.inr (.inr (.inr rfl))) rfl rfl) ?_
    refine sq rfl (yq_idx (k := j) rfl Try.underlying23 sz26_Solve rfl rfl zz0 zz3 zz10 (by omega)) ?_
    refine SW.s rfl (.inl rfl) rfl (yc_store rfl sz26_Solve rfl rfl zz8 (.inl ⟨rfl, rfl⟩) rfl (by rw [fl_length]; omega) (by decide) (fl_set _ _ _)) ?_
    rintro ⟨⟩
    refine SW.done ?_
    refine VE.block_normal (VE.then_wp (V.region ?_))
    refine vr (yr_int rfl rfl rfl (.inl ⟨rfl, wrap_in (by omega)⟩)) ?_
    refine vr (yr_move rfl rfl) ?_
    refine VL.nil ?_
    refine VE.round (j + 1, z.set j (fop .quo .f32 (z.getD j 0) (l.getD (j * n + j) 0))) ?_ ?_ ?_ ?_ ?_
    · exact (.cons rfl .nil)
    · exact (.cons rfl (.cons rfl (.cons rfl (.cons rfl .nil))))
    · exact (fun w hw => hw)
    · obtain rfl : k = j := by omega
      refine ⟨by omega, by simp [hzl], fun t ht => ?_⟩
      rw [gset (by omega), fwdF]
      split
      · rw [hz k (by omega), if_pos rfl]
      · rw [hz t ht, if_neg (by assumption)]
    · (try dsimp only); omega
  replace h6 := ic_lss' h6
  refine V.exit ?_
  refine VE.then_exit (VE.then_exit (VE.block_here (VE.then_wp (V.seq (V.seq (V.region ?_))))))
  refine vr (yr_move rfl rfl) ?_
  refine vr (yr_int rfl rfl rfl (.inr (.inl ⟨rfl, wrap_in (by omega)⟩))) ?_
  refine vr (yr_assign rfl rfl) ?_
  refine VL.nil (VE.then_wp (V.block ?_))
  refine V.loopc (G := Nat × (List Nat)) [(0, _), (6, _), (9, _)] (fun ⟨j1, x⟩ => j1 ≤ n ∧ x.length = n ∧ ∀ t, t < n → x.getD t 0 = bwdF l n (fwdF l n bs n) (n - j1) t) (fun ⟨j1, x⟩ => [⟨a42, fl x, c42 * 1, 26⟩]) (fun ⟨j1, x⟩ => [(12, .int .i64 ((j1 : Int) - 1))]) (fun ⟨j1, x⟩ => j1) (n, x) (.cons rfl (.cons rfl (.cons rfl .nil))) (.cons rfl .nil) ?_ ?_ ?_
  · exact (fun w hw => hw)
  · exact (by obtain rfl : n = j := (by omega); exact ⟨by omega, by omega, fun t h => by rw [hx t h, Nat.sub_self]; rfl⟩)
  rintro ⟨j1, x⟩ ⟨hj1, hxl, hx⟩
  show V _ _ _ [⟨a42, fl x, c42 * 1, 26⟩] ([(12, .int .i64 ((j1 : Int) - 1))] ++ [(0, _), (6, _), (9, _)]) _ _
  refine V.seq (V.seq (V.region ?_))
  refine vr (yr_move rfl rfl) ?_
  refine vr (yr_icmp rfl (.inr (.inr (.inr (.inr (.inr rfl))))) rfl rfl) ?_
  refine VL.nil (VE.then_wp ?_)
  refine V.cond rfl (fun h8 => ?_) (fun h8 => ?_)
  · skip
    replace h8 := ic_geq h8
    refine V.skip (VE.then_wp (V.seq (V.block (V.seq (V.seq (V.region ?_))))))
    refine vr (yr_move rfl rfl) ?_
    refine vr (yr_int rfl rfl rfl (.inl ⟨rfl, wrap_in (by omega)⟩)) ?_
    refine vr (yr_assign rfl rfl) ?_
    refine VL.nil (VE.then_wp (V.block ?_))
    refine V.loopc (G := Nat × (List Nat)) [(0, _), (6, _), (9, _), (12, _)] (fun ⟨k, z⟩ => j1 + k ≤ n ∧ z.length = n ∧ ∀ t, t < n → z.getD t 0 = if t = j1 - 1 then bwdS l n (j1 - 1) (bwdF l n (fwdF l n bs n) (n - j1)) (fwdF l n bs n (j1 - 1)) k else bwdF l n (fwdF l n bs n) (n - j1) t) (fun ⟨k, z⟩ => [⟨a42, fl z, c42 * 1, 26⟩]) (fun ⟨k, z⟩ => [(13, .int .i64 ((j1 + k : Nat) : Int))]) (fun ⟨k, z⟩ => n - (j1 + k)) (0, x) (.cons rfl (.cons rfl (.cons rfl (.cons rfl .nil)))) (.cons (congrArg (fun i => some (Value.int .i64 i)) (by omega)) .nil) ?_ ?_ ?_
    · exact (fun w hw => hw)
    · exact (by exact ⟨by omega, hxl, fun t h => by rw [hx t h]; split <;> first | rfl | (rename_i e; subst e; rw [bwdS, bwdF_lt _ _ _ _ _ (by omega)])⟩)
    rintro ⟨k, z⟩ ⟨hk, hzl, hz⟩
    show V _ _ _ [⟨a42, fl z, c42 * 1, 26⟩] ([(13, .int .i64 ((j1 + k : Nat) : Int))] ++ [(0, _), (6, _), (9, _), (12, _)]) _ _
    have hjj : (j1 - 1) * n + (j1 - 1) < n * n := hix (by omega) (by omega)
    have hjk : j1 + k < n → (j1 + k) * n + (j1 - 1) < n * n := fun h => hix h (by omega)
    refine V.seq (V.seq (V.region ?_))
    refine vr (yr_move rfl rfl) ?_
    refine vr (yr_move rfl rfl) ?_
    refine vr (yr_icmp rfl (.inr (.inr (.inl rfl))) rfl rfl) ?_
    refine VL.nil (VE.then_wp ?_)
    refine V.cond rfl (fun h9 => ?_) (fun h9 => ?_)
    · skip
      replace h9 := ic_lss h9
      refine V.skip (VE.then_wp (V.seq (V.block ?_)))
      refine V.draw [(0, 0), (1, 0), (2, 0), (3, 0), (4, 0), (5, 0), (6, 0), (7, 0), (8, 0), (9, 0), (10, 0), (11, 0), (12, 0), (13, 0), (14, 0), (15, 0), (16, 0), (17, 0), (18, 0), (19, 0), (20, 0), (21, 3)] mixed_Solve (by kernel_rfl) (by intro j o hj; simp at hj) ?_
      refine sr rfl (yr_move rfl rfl) ?_
      refine sr rfl (yr_move rfl rfl) ?_
      refine sr rfl (yr_move rfl rfl) ?_
      refine sr rfl (yr_move rfl rfl) ?_
      refine sq rfl (yq_idx (k := (j1 - 1)) rfl Try.underlying23 sz26_Solve rfl rfl zz0 zz3 zz10 (by omega)) ?_
      refine sq rfl (yq_loadF rfl fb26_Solve rfl zz0 (by omega)) ?_
      refine sr rfl (yr_move rfl rfl) ?_
      refine sr rfl (yr_move rfl rfl) ?_
      refine sr rfl (yr_move rfl rfl) ?_
      refine sr rfl (yr_mulN (j1 + k) n rfl rfl rfl (by omega) (by omega) (Nat.le_trans (mul_small (by omega) (by omega)) (by decide))) ?_
      refine sr rfl (yr_move rfl rfl) ?_
      refine sr rfl (yr_int rfl rfl rfl (.inl ⟨rfl, wrap_in (by omega)⟩)) ?_
      refine sq rfl (yq_idx (k := (((j1 + k) * n) + (j1 - 1))) rfl Try.underlying23 sz26_Solve rfl rfl zz0 zz3 zz10 (by omega)) ?_
      refine sq rfl (yq_loadF rfl fb26_Solve rfl zz0 (by omega)) ?_
      refine sr rfl (yr_move rfl rfl) ?_
      refine sr rfl (yr_move rfl rfl) ?_
      refine sq rfl (yq_idx (k := (j1 + k)) rfl Try.underlying23 sz26_Solve rfl rfl zz0 zz3 zz10 (by omega)) ?_
      refine sq rfl (yq_loadF rfl fb26_Solve rfl zz0 (by omega)) ?_
      refine sr rfl (yr_float rfl (.inr (.inr (.inl rfl))) rfl rfl) ?_
      refine sr rfl (yr_float rfl (.inr (.inl rfl)) rfl rfl) ?_
      refine sq rfl (yq_idx (k := (j1 - 1)) rfl Try.underlying23 sz26_Solve rfl rfl zz0 zz3 zz10 (by omega)) ?_
      refine SW.s rfl (.inl rfl) rfl (yc_store rfl sz26_Solve rfl rfl zz8 (.inl ⟨rfl, rfl⟩) rfl (by rw [fl_length]; omega) (by decide) (fl_set _ _ _)) ?_
      rintro ⟨⟩
      refine SW.done ?_
      refine VE.block_normal (VE.then_wp (V.region ?_))
      refine vr (yr_move rfl rfl) ?_
      refine vr (yr_int rfl rfl rfl (.inl ⟨rfl, wrap_in (by omega)⟩)) ?_
      refine vr (yr_assign rfl rfl) ?_
      refine VL.nil ?_
      refine VE.round (k + 1, z.set (j1 - 1) (fop .sub .f32 (z.getD (j1 - 1) 0) (fop .mul .f32 (l.getD ((j1 + k) * n + (j1 - 1)) 0) (z.getD (j1 + k) 0)))) ?_ ?_ ?_ ?_ ?_
      · exact (.cons (congrArg (fun i => some (Value.int .i64 i)) (by omega)) .nil)
      · exact (.cons rfl (.cons rfl (.cons rfl (.cons rfl .nil))))
      · exact (fun w hw => hw)
      · refine ⟨by omega, by simp [hzl], fun t ht => ?_⟩
        rw [gset (by omega)]
        split
        · rw [hz (j1 - 1) (by omega), if_pos rfl, hz (j1 + k) (by omega), if_neg (by omega), bwdS, show j1 - 1 + 1 + k = j1 + k by omega]
        · rw [hz t ht, if_neg (by assumption)]
      · (try dsimp only); omega
    replace h9 := ic_lss' h9
    refine V.exit ?_
    refine VE.then_exit (VE.then_exit (VE.block_here (VE.then_wp ?_)))
    refine V.draw [(0, 0), (1, 0), (2, 0), (3, 0), (4, 0), (5, 0), (6, 0), (7, 0), (8, 0), (9, 0), (10, 0), (11, 0), (12, 0), (13, 0), (14, 0), (15, 0), (16, 3)] mixed_Solve (by kernel_rfl) (by intro j o hj; simp at hj) ?_
    refine sr rfl (yr_move rfl rfl) ?_
    refine sr rfl (yr_move rfl rfl) ?_
    refine sr rfl (yr_move rfl rfl) ?_
    refine sr rfl (yr_move rfl rfl) ?_
    refine sq rfl (yq_idx (k := (j1 - 1)) rfl Try.underlying23 sz26_Solve rfl rfl zz0 zz3 zz10 (by omega)) ?_
    refine sq rfl (yq_loadF rfl fb26_Solve rfl zz0 (by omega)) ?_
    refine sr rfl (yr_move rfl rfl) ?_
    refine sr rfl (yr_move rfl rfl) ?_
    refine sr rfl (yr_move rfl rfl) ?_
    refine sr rfl (yr_mulN (j1 - 1) n rfl rfl rfl (by omega) (by omega) (Nat.le_trans (mul_small (by omega) (by omega)) (by decide))) ?_
    refine sr rfl (yr_move rfl rfl) ?_
    refine sr rfl (yr_int rfl rfl rfl (.inl ⟨rfl, wrap_in (by omega)⟩)) ?_
    refine sq rfl (yq_idx (k := (((j1 - 1) * n) + (j1 - 1))) rfl Try.underlying23 sz26_Solve rfl rfl zz0 zz3 zz10 (by omega)) ?_
    refine sq rfl (yq_loadF rfl fb26_Solve rfl zz0 (by omega)) ?_
    refine sr rfl (yr_float rfl (.inr (.inr (.inr rfl))) rfl rfl) ?_
    refine sq rfl (yq_idx (k := (j1 - 1)) rfl Try.underlying23 sz26_Solve rfl rfl zz0 zz3 zz10 (by omega)) ?_
    refine SW.s rfl (.inl rfl) rfl (yc_store rfl sz26_Solve rfl rfl zz8 (.inl ⟨rfl, rfl⟩) rfl (by rw [fl_length]; omega) (by decide) (fl_set _ _ _)) ?_
    rintro ⟨⟩
    refine SW.done ?_
    refine VE.block_normal (VE.then_wp (V.region ?_))
    refine vr (yr_move rfl rfl) ?_
    refine vr (yr_int rfl rfl rfl (.inr (.inl ⟨rfl, wrap_in (by omega)⟩))) ?_
    refine vr (yr_assign rfl rfl) ?_
    refine VL.nil ?_
    refine VE.round (j1 - 1, z.set (j1 - 1) (fop .quo .f32 (z.getD (j1 - 1) 0) (l.getD ((j1 - 1) * n + (j1 - 1)) 0))) ?_ ?_ ?_ ?_ ?_
    · exact (.cons (congrArg (fun i => some (Value.int .i64 i)) (by omega)) .nil)
    · exact (.cons rfl (.cons rfl (.cons rfl .nil)))
    · exact (fun w hw => hw)
    · obtain ⟨j0, rfl⟩ : ∃ j0, j1 = j0 + 1 := ⟨j1 - 1, by omega⟩
      obtain rfl : k = n - (j0 + 1) := by omega
      simp only [Nat.add_sub_cancel] at hz ⊢
      refine ⟨by omega, by simp [hzl], fun t h2 => ?_⟩
      rw [gset (by omega), bwdF_succ l n _ (by omega)]
      split
      · rw [hz j0 (by omega), if_pos rfl]
      · rw [hz t h2, if_neg (by assumption)]
    · (try dsimp only); omega
  replace h8 := ic_geq' h8
  refine V.exit ?_
  refine VE.then_exit (VE.then_exit (VE.block_here (VE.then_wp (V.seq (V.region ?_)))))
  refine vr (yr_move rfl rfl) ?_
  refine vr (yr_assign rfl rfl) ?_
  refine vr (yr_assign (u := .bool true) rfl rfl) ?_
  refine VL.nil (VE.then_wp (V.ret ?_))
  refine ret2 rfl rfl rfl (by nofun) (by nofun) (fun w1 hw => ?_)
  obtain rfl : j1 = 0 := by omega
  have hs : solveOk l bs = true := ok_yes (by rw [← hn]; omega) (by rw [← hn]; omega) (by rw [← hn]; exact fun t ht => hc t (by omega))
  have hso : solveOf l bs = solve l bs n := by rw [solveOf_yes hs, ← hn]
  have hxs : x = solve l bs n := by
    refine ext_getD (by rw [hxl, solve_length]) fun i hi => ?_
    rw [hx i (by omega)]
    unfold solve
    rw [getD_range _ _ (by omega)]
    rfl
  subst hxs
  exact ⟨(a42, c42), by rw [hso, hs, solve_length, show bs.length = n by omega], by rw [hso]; exact hw.out1⟩
end Go.Proofs.Ytgeflnjjppgooaa.Q

namespace Go.Proofs.Ytgeflnjjppgooaa.Q
open Go.RowKit
section
variable {P : Program} {n : Nat} {w0 : World} {O : List Ent} {E : Env} {o : Oper}
theorem yq_loadH [PhC] {t : TypeId} {x : Operand} {a : Option Addr} {k : Nat} {f : Nat → Option Addr × Nat} {xss : List (List Nat)} (ho : o.op = .load t x) (ht : flatB P t = true) (hx : E.opd x = some (.pointer (some (adr a k)))) (hs : Sees w0 O a (hd f xss)) (hk : k < xss.length) : YQ P w0 O E o (.slice (f k).1 (xss.getD k []).length (f k).2) :=
  yq_load ho ht hx hs (hd_get hk)
theorem retC [PhC] {fn : Func} {R : Value → World → Prop} {r : ResultVar} {u : Value} (hr : fn.results = #[r]) (h : RV n P w0 O E r u) (hn : ∀ z, u ≠ .tuple z) (hk : ∀ w, Hp w0 O w → R u w) : VE n w0 O E (Ends P fn R) .ret := by
  intro a w ha hw
  refine ⟨ha.defers, fun w1 hx => ?_⟩
  obtain ⟨vs, h1, h2⟩ := run_results (rs := [r]) hr (.cons h .nil) ha (hw.ext hx)
  match vs, h2 with
  | [v], h2 =>
    simp only [List.map_cons, List.map_nil, List.cons.injEq, and_true] at h2
    refine ⟨_, h1, v, rfl, ?_⟩
    have : cn v = u := by
      rw [← h2] at hn ⊢
      cases v <;> first | rfl | exact absurd rfl (hn _)
    rw [this]; exact hk w hw
end
end Go.Proofs.Ytgeflnjjppgooaa.Q

namespace Go.Proofs.Ytgeflnjjppgooaa.Q
open Go.RowKit
section
variable {P : Program} {n : Nat} {w0 : World} {O : List Ent} {E : Env} {o : Oper}
/-- A function value with captured pointers. -/
theorem yr_func1 [PhC] {f : Fn} {c : Operand} {p : Option Addr} (ho : o.op = .makeFunc f #[] #[c]) (hc : E.opd c = some (.pointer p)) : YR P E o (.func f #[] #[.pointer p]) :=
  yr_func ho (fun ρ hE => by simp [cn_pointer (hE.get (x := c) (by simp [ho, Op.operands]) hc)]) (fun _ => rfl)
end
end Go.Proofs.Ytgeflnjjppgooaa.Q

namespace Go.Proofs.Ytgeflnjjppgooaa.Q
open Go.RowKit
set_option linter.unusedVariables false
set_option linter.unusedSimpArgs false
set_option maxRecDepth 20000
set_option maxHeartbeats 800000
attribute [local irreducible] wqList Wq
theorem sz23_Rows : (Try.prog.info? 23).map (·.size) = some 1 := by kernel_rfl
theorem fb23_Rows : flatB Try.prog 23 = true := by kernel_rfl
theorem elt23_Rows : Elt Try.prog 23 [Value.slice none 0 0] 24 := Elt.mk' (by kernel_rfl) (by decide)
theorem known37_Rows : Known Try.prog 37 := Known.mk' Try.func37 (by kernel_rfl)
theorem sz26_Rows : (Try.prog.info? 26).map (·.size) = some 1 := by kernel_rfl
theorem fb26_Rows : flatB Try.prog 26 = true := by kernel_rfl
theorem known111_Rows : Known Try.prog 111 := Known.mk' Try.func111 (by kernel_rfl)
theorem known92_Rows : Known Try.prog 92 := Known.mk' Try.func92 (by kernel_rfl)
theorem known42_Rows : Known Try.prog 42 := Known.mk' Try.func42 (by kernel_rfl)
theorem known94_Rows : Known Try.prog 94 := Known.mk' Try.func94 (by kernel_rfl)
theorem known93_Rows : Known Try.prog 93 := Known.mk' Try.func93 (by kernel_rfl)
theorem known95_Rows : Known Try.prog 95 := Known.mk' Try.func95 (by kernel_rfl)
theorem known69_Rows : Known Try.prog 69 := Known.mk' Try.func69 (by kernel_rfl)
theorem c_toFF [PhC] {w : World} {a : Option Addr} {c : Nat} {f : Nat → Option Addr × Nat} {xss : List (List Nat)} (hA : Cl w a (hd f xss)) (hR : Rws w f xss) (hn : xss.length ≤ 1050000) (hr : ∀ i, i < xss.length → (xss.getD i []).length ≤ 1050000) : New Try.prog 36 [.slice a xss.length c] w (fun p : Nat × (Nat → Option Addr × Nat) => .slice (some ⟨p.1, 0, none⟩) xss.length xss.length) (fun p => ⟨some ⟨p.1, 0, none⟩, hd p.2 xss, xss.length * 1, 23⟩ :: rents 26 p.2 xss) := by
  refine New.enter Try.func36 rfl Try.ntmps36 (Nat.le_of_ble_eq_true rfl) ?_
  refine V.seq (V.region ?_)
  refine vr (yr_assign (u := .slice none 0 0) rfl rfl) ?_
  refine VL.nil (VE.then_wp (V.seq (V.region ?_)))
  refine vr (yr_move rfl rfl) ?_
  refine vr (yr_len rfl Try.underlying22 rfl) ?_
  refine VL.new1 (.inl rfl) rfl (by decide) (yn_makeSlicez 1 rfl rfl Try.underlying22 elt23_Rows rfl rfl rfl (by omega) (by omega)) ?_
  intro b7
  refine vr (yr_assign rfl rfl) ?_
  refine VL.nil (VE.then_wp (V.seq (V.seq (V.region ?_))))
  refine vr (yr_assign (u := .int .i64 0) rfl rfl) ?_
  refine VL.nil (VE.then_wp (V.block ?_))
  refine V.loopc (G := Nat × (Nat → Option Addr × Nat)) [(0, _), (3, _)] (fun ⟨k, g⟩ => k ≤ xss.length) (fun ⟨k, g⟩ => (⟨some ⟨b7, 0, none⟩, hdk g xss k, xss.length * 1, 23⟩ :: rents 26 g (xss.take k))) (fun ⟨k, g⟩ => [(4, .int .i64 (k : Int))]) (fun ⟨k, g⟩ => xss.length - k) (0, fun _ => (none, 0)) (.cons rfl (.cons rfl .nil)) (.cons rfl .nil) ?_ ?_ ?_
  · exact (fun w hw => by rw [cycle_nils, ← hdk_zero (fun _ => (none, 0)) xss] at hw; exact hw)
  · exact (by omega)
  rintro ⟨k, g⟩ hk
  show V _ _ _ (⟨some ⟨b7, 0, none⟩, hdk g xss k, xss.length * 1, 23⟩ :: rents 26 g (xss.take k)) ([(4, .int .i64 (k : Int))] ++ [(0, _), (3, _)]) _ _
  refine V.seq (V.seq (V.region ?_))
  refine vr (yr_move rfl rfl) ?_
  refine vr (yr_move rfl rfl) ?_
  refine vr (yr_len rfl Try.underlying22 rfl) ?_
  refine vr (yr_icmp rfl (.inr (.inr (.inl rfl))) rfl rfl) ?_
  refine VL.nil (VE.then_wp ?_)
  refine V.cond rfl (fun h1 => ?_) (fun h1 => ?_)
  · skip
    replace h1 := ic_lss h1
    refine V.skip (VE.then_wp (V.seq (V.block (V.region ?_))))
    refine vr (yr_move rfl rfl) ?_
    refine vr (yr_move rfl rfl) ?_
    refine vr (yr_move rfl rfl) ?_
    refine vr (yr_move rfl rfl) ?_
    refine vq (yq_idx (k := k) rfl Try.underlying22 sz23_Rows rfl rfl zz0 zz3 (by first | exact hd_length _ _ | (rw [hdk_length (by omega)])) (by omega)) ?_
    refine vq (yq_loadH rfl fb23_Rows rfl zz0 (by omega)) ?_
    refine VL.new1 (.inl rfl) rfl (by decide) (yn_callf rfl known37_Rows (.cons rfl .nil) (fun w hw => c_toF (hR.root hw k (by omega)) (hr k (by omega)))) ?_
    rintro ⟨a20, c20⟩
    refine vq (yq_idx (k := k) rfl Try.underlying22 sz23_Rows rfl rfl zz0 zz3 (by first | exact hd_length _ _ | (rw [hdk_length (by omega)])) (by omega)) ?_
    refine VL.s (.inl rfl) rfl (yc_store rfl sz23_Rows rfl rfl zz8 (.inl ⟨rfl, rfl⟩) rfl (by rw [hdk_length (by omega)]; omega) (by decide) (hdk_set (by omega) (a20, c20))) ?_
    rintro ⟨⟩
    refine VL.nil (VE.block_normal (VE.then_wp (V.region ?_)))
    refine vr (yr_move rfl rfl) ?_
    refine vr (yr_int rfl rfl rfl (.inl ⟨rfl, wrap_in (by omega)⟩)) ?_
    refine vr (yr_assign rfl rfl) ?_
    refine VL.nil ?_
    refine VE.round (k + 1, upd g k (a20, c20)) ?_ ?_ ?_ ?_ ?_
    · exact (.cons rfl .nil)
    · exact (.cons rfl (.cons rfl .nil))
    · exact (fun w hw => by show Hp _ (_ :: rents _ (upd g k (a20, c20)) (xss.take (k + 1))) w; rw [← rents_take (by omega)]; exact hw.perm' ((List.Perm.swap _ _ _).trans (List.Perm.cons _ (List.perm_append_comm (l₁ := [_])))))
    · omega
    · (try dsimp only); omega
  replace h1 := ic_lss' h1
  refine V.exit ?_
  refine VE.then_exit (VE.then_exit (VE.block_here (VE.then_wp (V.seq (V.region ?_)))))
  refine vr (yr_move rfl rfl) ?_
  refine vr (yr_assign rfl rfl) ?_
  refine VL.nil (VE.then_wp (V.ret ?_))
  refine ret1 rfl rfl (fun w1 hw => ?_)
  obtain rfl : k = xss.length := by omega
  rw [hdk_all, List.take_length] at hw
  exact ⟨(b7, g), rfl, hw.outs (List.Sublist.refl _)⟩
theorem c_idxF [PhC] {w : World} {a : Option Addr} {c : Nat} {xs : List Nat} {g : FuncId} {cs : Array Value} {p : Nat → Bool} (hA : Cl w a (fl xs)) (hg : Known Try.prog g) (hF : ∀ w', Below w.heap.size w w' → ∀ k, k < xs.length → Pure Try.prog g ([.float .f32 (xs.getD k 0)] ++ cs.toList.map cn) w' (.bool (p k))) (hn : xs.length ≤ 1050000) : Pure Try.prog 111 [.slice a xs.length c, .func (.func g) #[] cs] w (.int .i64 (idxI p xs.length)) := by
  refine Pure.enter Try.func111 rfl Try.ntmps111 (Nat.le_of_ble_eq_true rfl) ?_
  refine V.seq (V.region ?_)
  refine vr (yr_assign (u := .int .i64 0) rfl rfl) ?_
  refine VL.nil (VE.then_wp (V.seq (V.seq (V.region ?_))))
  refine vr (yr_move rfl rfl) ?_
  refine vr (yr_len rfl Try.underlying23 rfl) ?_
  refine vr (yr_move (u := .int .i64 0) rfl rfl) ?_
  refine VL.nil (VE.then_wp (V.block ?_))
  refine V.loops (G := Nat) [(0, _), (1, _), (7, _)] (fun (k : Nat) => k ≤ xs.length ∧ ∀ j, j < k → p j = false) (fun (k : Nat) => [(8, .int .i64 (k : Int))]) (fun (k : Nat) => xs.length - k) 0 (.cons rfl (.cons rfl (.cons rfl .nil))) (.cons rfl .nil) ?_ ?_
  · exact (by exact ⟨by omega, fun j h => by omega⟩)
  rintro k ⟨hk, hI⟩
  show V _ _ _ _ ([(8, .int .i64 (k : Int))] ++ [(0, _), (1, _), (7, _)]) _ _
  refine V.seq (V.region ?_)
  refine vr (yr_icmp rfl (.inr (.inr (.inl rfl))) rfl rfl) ?_
  refine VL.nil (VE.then_wp (V.seq ?_))
  refine V.cond rfl (fun h1 => ?_) (fun h1 => ?_)
  · skip
    replace h1 := ic_lss h1
    refine V.skip (VE.then_wp (V.seq (V.block (V.seq (V.region ?_)))))
    refine vr (yr_move rfl rfl) ?_
    refine vr (yr_assign rfl rfl) ?_
    refine VL.nil (VE.then_wp (V.seq (V.region ?_)))
    refine vr (yr_move rfl rfl) ?_
    refine vr (yr_move rfl rfl) ?_
    refine vr (yr_move rfl rfl) ?_
    refine vq (yq_idx (k := k) rfl Try.underlying23 sz26_Rows rfl rfl zz0 zz3 (by exact fl_length _) (by omega)) ?_
    refine vq (yq_loadF rfl fb26_Rows rfl zz0 (by omega)) ?_
    refine VL.qv (.inl rfl) rfl (by decide) (VEv.ofK hg rfl rfl) (yq_call rfl hg rfl (.cons rfl .nil) (fun w hw => hF w hw.below k (by omega))) ?_
    refine VL.nil (VE.then_wp ?_)
    refine V.cond rfl (fun h2 => ?_) (fun h2 => ?_)
    · skip
      refine V.seq (V.region ?_)
      refine vr (yr_move rfl rfl) ?_
      refine vr (yr_assign rfl rfl) ?_
      refine VL.nil (VE.then_wp (V.ret ?_))
      refine VE.block_ret ?_
      refine VE.then_ret (VE.then_ret ?_)
      refine VE.block_ret ?_
      refine VE.then_ret ?_
      refine ret1 rfl rfl (fun w1 hw => ?_)
      exact ⟨by rw [idxI_of hI (by assumption) (by omega)], hw.below⟩
    refine V.skip (VE.block_normal (VE.then_wp (V.region ?_)))
    refine vr (yr_int rfl rfl rfl (.inl ⟨rfl, wrap_in (by omega)⟩)) ?_
    refine vr (yr_move rfl rfl) ?_
    refine VL.nil ?_
    refine VE.round (k + 1) ?_ ?_ ?_ ?_ ?_
    · exact (.cons rfl .nil)
    · exact (.cons rfl (.cons rfl (.cons rfl .nil)))
    · exact (fun w hw => hw)
    · exact ⟨by omega, fun j hj => by rcases Nat.lt_or_ge j k with h | h; exact hI j h; obtain rfl : j = k := (by omega); assumption⟩
    · (try dsimp only); omega
  replace h1 := ic_lss' h1
  refine V.exit ?_
  refine VE.then_exit (VE.then_exit (VE.block_here (VE.then_wp (V.seq (V.region ?_)))))
  refine vr (yr_assign (u := .int .i64 (-1)) rfl rfl) ?_
  refine VL.nil (VE.then_wp (V.ret ?_))
  refine ret1 rfl rfl (fun w1 hw => ?_)
  obtain rfl : k = xs.length := by omega
  exact ⟨by rw [idxI_no hI], hw.below⟩
theorem c_hasF [PhC] {w : World} {a : Option Addr} {c : Nat} {xs : List Nat} {g : FuncId} {cs : Array Value} {p : Nat → Bool} (hA : Cl w a (fl xs)) (hg : Known Try.prog g) (hF : ∀ w', Below w.heap.size w w' → ∀ k, k < xs.length → Pure Try.prog g ([.float .f32 (xs.getD k 0)] ++ cs.toList.map cn) w' (.bool (p k))) (hn : xs.length ≤ 1050000) : Pure Try.prog 93 [.slice a xs.length c, .func (.func g) #[] cs] w (.bool (decide (0 ≤ idxI p xs.length))) := by
  refine Pure.enter Try.func93 rfl Try.ntmps93 (Nat.le_of_ble_eq_true rfl) ?_
  refine V.seq (V.region ?_)
  refine vr (yr_assign (u := .bool false) rfl rfl) ?_
  refine VL.nil (VE.then_wp (V.seq (V.region ?_)))
  refine vr (yr_move rfl rfl) ?_
  refine vr (yr_move rfl rfl) ?_
  refine vq (yq_callf rfl known111_Rows (.cons rfl (.cons rfl .nil)) (fun w hw => (c_idxF zz1 hg (fun w1 hb => hF w1 (hw.below.trans (hb.mono hw.below.size))) (by omega)))) ?_
  refine vr (yr_icmp rfl (.inr (.inr (.inr (.inr (.inr rfl))))) rfl rfl) ?_
  refine vr (yr_assign rfl rfl) ?_
  refine VL.nil (VE.then_wp (V.ret ?_))
  refine ret1 rfl rfl (fun w1 hw => ?_)
  exact ⟨rfl, hw.below⟩
theorem c_idxR [PhC] {w : World} {a : Option Addr} {c : Nat} {f : Nat → Option Addr × Nat} {xss : List (List Nat)} {g : FuncId} {cs : Array Value} {p : Nat → Bool} (hA : Cl w a (hd f xss)) (hg : Known Try.prog g) (hF : ∀ w', Below w.heap.size w w' → ∀ k, k < xss.length → Pure Try.prog g ([.slice (f k).1 (xss.getD k []).length (f k).2] ++ cs.toList.map cn) w' (.bool (p k))) (hn : xss.length ≤ 1050000) : Pure Try.prog 92 [.slice a xss.length c, .func (.func g) #[] cs] w (.int .i64 (idxI p xss.length)) := by
  refine Pure.enter Try.func92 rfl Try.ntmps92 (Nat.le_of_ble_eq_true rfl) ?_
  refine V.seq (V.region ?_)
  refine vr (yr_assign (u := .int .i64 0) rfl rfl) ?_
  refine VL.nil (VE.then_wp (V.seq (V.seq (V.region ?_))))
  refine vr (yr_move rfl rfl) ?_
  refine vr (yr_len rfl Try.underlying22 rfl) ?_
  refine vr (yr_move (u := .int .i64 0) rfl rfl) ?_
  refine VL.nil (VE.then_wp (V.block ?_))
  refine V.loops (G := Nat) [(0, _), (1, _), (7, _)] (fun (k : Nat) => k ≤ xss.length ∧ ∀ j, j < k → p j = false) (fun (k : Nat) => [(8, .int .i64 (k : Int))]) (fun (k : Nat) => xss.length - k) 0 (.cons rfl (.cons rfl (.cons rfl .nil))) (.cons rfl .nil) ?_ ?_
  · exact (by exact ⟨by omega, fun j h => by omega⟩)
  rintro k ⟨hk, hI⟩
  show V _ _ _ _ ([(8, .int .i64 (k : Int))] ++ [(0, _), (1, _), (7, _)]) _ _
  refine V.seq (V.region ?_)
  refine vr (yr_icmp rfl (.inr (.inr (.inl rfl))) rfl rfl) ?_
  refine VL.nil (VE.then_wp (V.seq ?_))
  refine V.cond rfl (fun h1 => ?_) (fun h1 => ?_)
  · skip
    replace h1 := ic_lss h1
    refine V.skip (VE.then_wp (V.seq (V.block (V.seq (V.region ?_)))))
    refine vr (yr_move rfl rfl) ?_
    refine vr (yr_assign rfl rfl) ?_
    refine VL.nil (VE.then_wp (V.seq (V.region ?_)))
    refine vr (yr_move rfl rfl) ?_
    refine vr (yr_move rfl rfl) ?_
    refine vr (yr_move rfl rfl) ?_
    refine vq (yq_idx (k := k) rfl Try.underlying22 sz23_Rows rfl rfl zz0 zz3 (by exact hd_length _ _) (by omega)) ?_
    refine vq (yq_loadH rfl fb23_Rows rfl zz0 (by omega)) ?_
    refine VL.qv (.inl rfl) rfl (by decide) (VEv.ofK hg rfl rfl) (yq_call rfl hg rfl (.cons rfl .nil) (fun w hw => hF w hw.below k (by omega))) ?_
    refine VL.nil (VE.then_wp ?_)
    refine V.cond rfl (fun h2 => ?_) (fun h2 => ?_)
    · skip
      refine V.seq (V.region ?_)
      refine vr (yr_move rfl rfl) ?_
      refine vr (yr_assign rfl rfl) ?_
      refine VL.nil (VE.then_wp (V.ret ?_))
      refine VE.block_ret ?_
      refine VE.then_ret (VE.then_ret ?_)
      refine VE.block_ret ?_
      refine VE.then_ret ?_
      refine ret1 rfl rfl (fun w1 hw => ?_)
      exact ⟨by rw [idxI_of hI (by assumption) (by omega)], hw.below⟩
    refine V.skip (VE.block_normal (VE.then_wp (V.region ?_)))
    refine vr (yr_int rfl rfl rfl (.inl ⟨rfl, wrap_in (by omega)⟩)) ?_
    refine vr (yr_move rfl rfl) ?_
    refine VL.nil ?_
    refine VE.round (k + 1) ?_ ?_ ?_ ?_ ?_
    · exact (.cons rfl .nil)
    · exact (.cons rfl (.cons rfl (.cons rfl .nil)))
    · exact (fun w hw => hw)
    · exact ⟨by omega, fun j hj => by rcases Nat.lt_or_ge j k with h | h; exact hI j h; obtain rfl : j = k := (by omega); assumption⟩
    · (try dsimp only); omega
  replace h1 := ic_lss' h1
  refine V.exit ?_
  refine VE.then_exit (VE.then_exit (VE.block_here (VE.then_wp (V.seq (V.region ?_)))))
  refine vr (yr_assign (u := .int .i64 (-1)) rfl rfl) ?_
  refine VL.nil (VE.then_wp (V.ret ?_))
  refine ret1 rfl rfl (fun w1 hw => ?_)
  obtain rfl : k = xss.length := by omega
  exact ⟨by rw [idxI_no hI], hw.below⟩
theorem c_hasR [PhC] {w : World} {a : Option Addr} {c : Nat} {f : Nat → Option Addr × Nat} {xss : List (List Nat)} {g : FuncId} {cs : Array Value} {p : Nat → Bool} (hA : Cl w a (hd f xss)) (hg : Known Try.prog g) (hF : ∀ w', Below w.heap.size w w' → ∀ k, k < xss.length → Pure Try.prog g ([.slice (f k).1 (xss.getD k []).length (f k).2] ++ cs.toList.map cn) w' (.bool (p k))) (hn : xss.length ≤ 1050000) : Pure Try.prog 63 [.slice a xss.length c, .func (.func g) #[] cs] w (.bool (decide (0 ≤ idxI p xss.length))) := by
  refine Pure.enter Try.func63 rfl Try.ntmps63 (Nat.le_of_ble_eq_true rfl) ?_
  refine V.seq (V.region ?_)
  refine vr (yr_assign (u := .bool false) rfl rfl) ?_
  refine VL.nil (VE.then_wp (V.seq (V.region ?_)))
  refine vr (yr_move rfl rfl) ?_
  refine vr (yr_move rfl rfl) ?_
  refine vq (yq_callf rfl known92_Rows (.cons rfl (.cons rfl .nil)) (fun w hw => (c_idxR zz1 hg (fun w1 hb => hF w1 (hw.below.trans (hb.mono hw.below.size))) (by omega)))) ?_
  refine vr (yr_icmp rfl (.inr (.inr (.inr (.inr (.inr rfl))))) rfl rfl) ?_
  refine vr (yr_assign rfl rfl) ?_
  refine VL.nil (VE.then_wp (V.ret ?_))
  refine ret1 rfl rfl (fun w1 hw => ?_)
  exact ⟨rfl, hw.below⟩
theorem c_areFin1 [PhC] {w : World} (x : Nat) : Pure Try.prog 94 [.float .f32 x] w (.bool (!fin x)) := by
  refine Pure.enter Try.func94 rfl Try.ntmps94 (Nat.le_of_ble_eq_true rfl) ?_
  refine V.seq (V.region ?_)
  refine vr (yr_assign (u := .bool false) rfl rfl) ?_
  refine VL.nil (VE.then_wp (V.seq (V.region ?_)))
  refine vr (yr_move rfl rfl) ?_
  refine vq (yq_callf rfl known42_Rows (.cons rfl .nil) (fun w hw => c_IsFinite _)) ?_
  refine vr (yr_not rfl rfl) ?_
  refine vr (yr_assign rfl rfl) ?_
  refine VL.nil (VE.then_wp (V.ret ?_))
  refine ret1 rfl rfl (fun w1 hw => ?_)
  exact ⟨rfl, hw.below⟩
theorem c_areNot1 [PhC] {w : World} (x : Nat) : Pure Try.prog 95 [.float .f32 x] w (.bool (!least x)) := by
  refine Pure.enter Try.func95 rfl Try.ntmps95 (Nat.le_of_ble_eq_true rfl) ?_
  refine V.seq (V.region ?_)
  refine vr (yr_assign (u := .bool false) rfl rfl) ?_
  refine VL.nil (VE.then_wp (V.seq (V.region ?_)))
  refine vr (yr_move rfl rfl) ?_
  refine vq (yq_callf rfl known42_Rows (.cons rfl .nil) (fun w hw => c_IsFinite _)) ?_
  refine vr (yr_not rfl rfl) ?_
  refine vr (yr_move rfl rfl) ?_
  refine VX.split 6 _ rfl (fun h1 => ?_) (fun h1 => ?_)
  · skip
    replace h1 := bnot_t h1
    refine vn ?_
    refine vn ?_
    refine vr (yr_pick_t (u := .bool true) rfl rfl rfl) ?_
    refine vr (yr_assign rfl rfl) ?_
    refine VL.nil (VE.then_wp (V.ret ?_))
    refine ret1 rfl rfl (fun w1 hw => ?_)
    exact ⟨by simp only [least, *, Bool.false_and, Bool.not_false], hw.below⟩
  replace h1 := bnot_f h1
  refine VL.r (.inr ⟨_, _, _, rfl, rfl, rfl⟩) rfl (by decide) (yr_move rfl rfl) ?_
  refine VL.r (.inr ⟨_, _, _, rfl, rfl, rfl⟩) rfl (by decide) (yr_fcmp (b := 0) rfl (.inr (.inr (.inl rfl))) rfl rfl) ?_
  refine vr (yr_pick_f rfl rfl rfl) ?_
  refine vr (yr_assign rfl rfl) ?_
  refine VL.nil (VE.then_wp (V.ret ?_))
  refine ret1 rfl rfl (fun w1 hw => ?_)
  exact ⟨by simp only [least, *, Bool.true_and, lss_geq, Bool.not_not], hw.below⟩
theorem c_areFinite [PhC] {w : World} {a : Option Addr} {c : Nat} {xs : List Nat} (hA : Cl w a (fl xs)) (hn : xs.length ≤ 1050000) : Pure Try.prog 65 [.slice a xs.length c] w (.bool (xs.all fin)) := by
  refine Pure.enter Try.func65 rfl Try.ntmps65 (Nat.le_of_ble_eq_true rfl) ?_
  refine V.seq (V.region ?_)
  refine vr (yr_assign (u := .bool false) rfl rfl) ?_
  refine VL.nil (VE.then_wp (V.seq (V.region ?_)))
  refine vr (yr_move rfl rfl) ?_
  refine vq (yq_callf rfl known93_Rows (.cons rfl (.cons rfl .nil)) (fun w hw => (c_hasF (p := fun k => !fin (xs.getD k 0)) zz1 known94_Rows (fun w1 _ k _ => c_areFin1 _) (by omega)))) ?_
  refine vr (yr_not rfl rfl) ?_
  refine vr (yr_assign rfl rfl) ?_
  refine VL.nil (VE.then_wp (V.ret ?_))
  refine ret1 rfl rfl (fun w1 hw => ?_)
  exact ⟨congrArg Value.bool (all_list fin xs), hw.below⟩
theorem c_areNotNeg [PhC] {w : World} {a : Option Addr} {c : Nat} {xs : List Nat} (hA : Cl w a (fl xs)) (hn : xs.length ≤ 1050000) : Pure Try.prog 66 [.slice a xs.length c] w (.bool (xs.all least)) := by
  refine Pure.enter Try.func66 rfl Try.ntmps66 (Nat.le_of_ble_eq_true rfl) ?_
  refine V.seq (V.region ?_)
  refine vr (yr_assign (u := .bool false) rfl rfl) ?_
  refine VL.nil (VE.then_wp (V.seq (V.region ?_)))
  refine vr (yr_move rfl rfl) ?_
  refine vq (yq_callf rfl known93_Rows (.cons rfl (.cons rfl .nil)) (fun w hw => (c_hasF (p := fun k => !least (xs.getD k 0)) zz1 known95_Rows (fun w1 _ k _ => c_areNot1 _) (by omega)))) ?_
  refine vr (yr_not rfl rfl) ?_
  refine vr (yr_assign rfl rfl) ?_
  refine VL.nil (VE.then_wp (V.ret ?_))
  refine ret1 rfl rfl (fun w1 hw => ?_)
  exact ⟨congrArg Value.bool (all_list least xs), hw.below⟩
theorem c_l07Row [PhC] {w : World} {a : Option Addr} {c : Nat} {xs : List Nat} {n : Nat} (hA : Cl w a (fl xs)) (hn : xs.length ≤ 1050000) : Pure Try.prog 68 [.slice a xs.length c, .int .i64 (n : Int)] w (.bool (rowOk xs n)) := by
  refine Pure.enter Try.func68 rfl Try.ntmps68 (Nat.le_of_ble_eq_true rfl) ?_
  refine V.seq (V.region ?_)
  refine vr (yr_assign (u := .bool false) rfl rfl) ?_
  refine VL.nil (VE.then_wp (V.seq (V.seq (V.region ?_))))
  refine vr (yr_move rfl rfl) ?_
  refine vr (yr_len rfl Try.underlying23 rfl) ?_
  refine vr (yr_move (u := .int .i64 0) rfl rfl) ?_
  refine VL.nil (VE.then_wp (V.block ?_))
  refine V.loops (G := Nat) [(0, _), (1, _), (7, _)] (fun (k : Nat) => k ≤ xs.length ∧ ∀ j, j < k → fin (xs.getD j 0) = true) (fun (k : Nat) => [(8, .int .i64 (k : Int))]) (fun (k : Nat) => xs.length - k) 0 (.cons rfl (.cons rfl (.cons rfl .nil))) (.cons rfl .nil) ?_ ?_
  · exact (by exact ⟨by omega, fun j h => by omega⟩)
  rintro k ⟨hk, hI⟩
  show V _ _ _ _ ([(8, .int .i64 (k : Int))] ++ [(0, _), (1, _), (7, _)]) _ _
  refine V.seq (V.region ?_)
  refine vr (yr_icmp rfl (.inr (.inr (.inl rfl))) rfl rfl) ?_
  refine VL.nil (VE.then_wp (V.seq ?_))
  refine V.cond rfl (fun h1 => ?_) (fun h1 => ?_)
  · skip
    replace h1 := ic_lss h1
    refine V.skip (VE.then_wp (V.seq (V.block (V.seq (V.region ?_)))))
    refine vr (yr_move rfl rfl) ?_
    refine vr (yr_assign rfl rfl) ?_
    refine VL.nil (VE.then_wp (V.seq (V.region ?_)))
    refine vr (yr_move rfl rfl) ?_
    refine vr (yr_move rfl rfl) ?_
    refine vq (yq_idx (k := k) rfl Try.underlying23 sz26_Rows rfl rfl zz0 zz3 (by first | exact fl_length _ | exact hd_length _ _ | simp) (by omega)) ?_
    refine vq (yq_loadF rfl fb26_Rows rfl zz0 (by omega)) ?_
    refine vq (yq_callf rfl known69_Rows (.cons rfl .nil) (fun w hw => c_l01Finite _)) ?_
    refine vr (yr_not rfl rfl) ?_
    refine VL.nil (VE.then_wp ?_)
    refine V.cond rfl (fun h2 => ?_) (fun h2 => ?_)
    · skip
      replace h2 := bnot_t h2
      refine V.seq (V.region ?_)
      refine vr (yr_assign (u := .bool false) rfl rfl) ?_
      refine VL.nil (VE.then_wp (V.ret ?_))
      refine VE.block_ret ?_
      refine VE.then_ret (VE.then_ret ?_)
      refine VE.block_ret ?_
      refine VE.then_ret ?_
      refine ret1 rfl rfl (fun w1 hw => ?_)
      exact ⟨by rw [rowOk, all_no (k := k) (by omega) (by assumption), Bool.false_and], hw.below⟩
    replace h2 := bnot_f h2
    refine V.skip (VE.block_normal (VE.then_wp (V.region ?_)))
    refine vr (yr_int rfl rfl rfl (.inl ⟨rfl, wrap_in (by omega)⟩)) ?_
    refine vr (yr_move rfl rfl) ?_
    refine VL.nil ?_
    refine VE.round (k + 1) ?_ ?_ ?_ ?_ ?_
    · exact (.cons rfl .nil)
    · exact (.cons rfl (.cons rfl (.cons rfl .nil)))
    · exact (fun w hw => hw)
    · exact ⟨by omega, fun j hj => by rcases Nat.lt_or_ge j k with h | h; exact hI j h; obtain rfl : j = k := (by omega); assumption⟩
    · (try dsimp only); omega
  replace h1 := ic_lss' h1
  refine V.exit ?_
  refine VE.then_exit (VE.then_exit (VE.block_here (VE.then_wp (V.seq (V.region ?_)))))
  refine vr (yr_move rfl rfl) ?_
  refine vr (yr_len rfl Try.underlying23 rfl) ?_
  refine vr (yr_move rfl rfl) ?_
  refine vr (yr_icmp rfl (.inl rfl) rfl rfl) ?_
  refine vr (yr_assign rfl rfl) ?_
  refine VL.nil (VE.then_wp (V.ret ?_))
  refine ret1 rfl rfl (fun w1 hw => ?_)
  obtain rfl : k = xs.length := by omega
  refine ⟨congrArg Value.bool ?_, hw.below⟩
  rw [rowOk, all_getD.2 hI, Bool.true_and]
  exact icmp_eqN _ _
end Go.Proofs.Ytgeflnjjppgooaa.Q

namespace Go.Proofs.Ytgeflnjjppgooaa.Q
open Go.RowKit
set_option linter.unusedVariables false
set_option linter.unusedSimpArgs false
set_option maxRecDepth 20000
set_option maxHeartbeats 800000
attribute [local irreducible] wqList Wq
theorem sz22_Design : (Try.prog.info? 22).map (·.size) = some 1 := by kernel_rfl
theorem fb22_Design : flatB Try.prog 22 = true := by kernel_rfl
theorem sz23_Design : (Try.prog.info? 23).map (·.size) = some 1 := by kernel_rfl
theorem fb23_Design : flatB Try.prog 23 = true := by kernel_rfl
theorem zero30_Design : (Try.prog.info? 30).bind (·.zero) = some (Value.agg #[Value.slice none 0 0, Value.slice none 0 0, Value.slice none 0 0]) := by kernel_rfl
theorem known36_Design : Known Try.prog 36 := Known.mk' Try.func36 (by kernel_rfl)
theorem known37_Design : Known Try.prog 37 := Known.mk' Try.func37 (by kernel_rfl)
theorem sz30_Design : (Try.prog.info? 30).map (·.size) = some 3 := by kernel_rfl
theorem known68_Design : Known Try.prog 68 := Known.mk' Try.func68 (by kernel_rfl)
theorem sz26_Design : (Try.prog.info? 26).map (·.size) = some 1 := by kernel_rfl
theorem fb26_Design : flatB Try.prog 26 = true := by kernel_rfl
theorem known34_Design : Known Try.prog 34 := Known.mk' Try.func34 (by kernel_rfl)
theorem known65_Design : Known Try.prog 65 := Known.mk' Try.func65 (by kernel_rfl)
theorem known61_Design : Known Try.prog 61 := Known.mk' Try.func61 (by kernel_rfl)
theorem known62_Design : Known Try.prog 62 := Known.mk' Try.func62 (by kernel_rfl)
theorem known64_Design : Known Try.prog 64 := Known.mk' Try.func64 (by kernel_rfl)
theorem known63_Design : Known Try.prog 63 := Known.mk' Try.func63 (by kernel_rfl)
theorem known66_Design : Known Try.prog 66 := Known.mk' Try.func66 (by kernel_rfl)
theorem c_toDesign [PhC] {w : World} {a a1 a2 : Option Addr} {c c1 c2 : Nat} {f : Nat → Option Addr × Nat} {xss : List (List Nat)} {ws gs : List Nat} (hA : Cl w a (hd f xss)) (hR : Rws w f xss) (hW : Cl w a1 (fl ws)) (hG : Cl w a2 (fl gs)) (hsz : bulk xss + ws.length + gs.length ≤ 1050000) : New Try.prog 9 [.agg #[.slice a xss.length c, .slice a1 ws.length c1, .slice a2 gs.length c2]] w (fun p : (Nat × (Nat → Option Addr × Nat)) × (Option Addr × Nat) × (Option Addr × Nat) => .agg #[.slice (some ⟨p.1.1, 0, none⟩) xss.length xss.length, .slice p.2.1.1 ws.length p.2.1.2, .slice p.2.2.1 gs.length p.2.2.2]) (fun p => ⟨p.2.2.1, fl gs, p.2.2.2 * 1, 26⟩ :: ⟨p.2.1.1, fl ws, p.2.1.2 * 1, 26⟩ :: ⟨some ⟨p.1.1, 0, none⟩, hd p.1.2 xss, xss.length * 1, 23⟩ :: rents 26 p.1.2 xss) := by
  refine New.enter Try.func9 rfl Try.ntmps9 (Nat.le_of_ble_eq_true rfl) ?_
  have hr : ∀ i, i < xss.length → (xss.getD i []).length ≤ 1050000 := fun i hi => by have := bulk_row hi; omega
  have hxl : xss.length ≤ bulk xss := by unfold bulk; omega
  refine V.seq (V.region ?_)
  refine VL.new1 (.inl rfl) rfl (by decide) (yn_box rfl rfl (.inr ⟨rfl, rfl⟩)) ?_
  intro b1
  refine VL.new1 (.inl rfl) rfl (by decide) (yn_alloc rfl zero30_Design rfl) ?_
  intro b2
  refine VL.nil (VE.then_wp (V.seq (V.region ?_)))
  refine VL.new1 (.inl rfl) rfl (by decide) (yn_alloc rfl zero30_Design rfl) ?_
  intro b3
  refine VL.nil (VE.then_wp (V.seq (V.region ?_)))
  refine vr (yr_fieldAddr rfl Try.underlying25 rfl rfl sz22_Design (by decide) rfl) ?_
  refine vq (yq_load rfl fb22_Design rfl zz0 rfl) ?_
  refine VL.new (.inl rfl) rfl (by decide) (yn_callf rfl known36_Design (.cons rfl .nil) (fun w hw => (c_toFF zz1 zz7 (by omega) (by assumption)))) ?_
  rintro ⟨b6, f6⟩
  refine vr (yr_fieldAddr rfl Try.underlying30 rfl rfl sz22_Design (by decide) rfl) ?_
  refine VL.s (.inl rfl) rfl (yc_store rfl sz22_Design rfl rfl zz8 (.inl ⟨rfl, rfl⟩) rfl (by first | exact Nat.le_of_ble_eq_true rfl | simp) (by decide) rfl) ?_
  rintro ⟨⟩
  refine VL.nil (VE.then_wp (V.seq (V.region ?_)))
  refine vr (yr_fieldAddr rfl Try.underlying25 rfl rfl sz23_Design (by decide) rfl) ?_
  refine vq (yq_load rfl fb23_Design rfl zz0 rfl) ?_
  refine VL.new1 (.inl rfl) rfl (by decide) (yn_callf rfl known37_Design (.cons rfl .nil) (fun w hw => c_toF zz1 (by omega))) ?_
  rintro ⟨a10, c10⟩
  refine vr (yr_fieldAddr rfl Try.underlying30 rfl rfl sz23_Design (by decide) rfl) ?_
  refine VL.s (.inl rfl) rfl (yc_store rfl sz23_Design rfl rfl zz8 (.inl ⟨rfl, rfl⟩) rfl (by first | exact Nat.le_of_ble_eq_true rfl | simp) (by decide) rfl) ?_
  rintro ⟨⟩
  refine VL.nil (VE.then_wp (V.seq (V.region ?_)))
  refine vr (yr_fieldAddr rfl Try.underlying25 rfl rfl sz23_Design (by decide) rfl) ?_
  refine vq (yq_load rfl fb23_Design rfl zz0 rfl) ?_
  refine VL.new1 (.inl rfl) rfl (by decide) (yn_callf rfl known37_Design (.cons rfl .nil) (fun w hw => c_toF zz1 (by omega))) ?_
  rintro ⟨a14, c14⟩
  refine vr (yr_fieldAddr rfl Try.underlying30 rfl rfl sz23_Design (by decide) rfl) ?_
  refine VL.s (.inl rfl) rfl (yc_store rfl sz23_Design rfl rfl zz8 (.inl ⟨rfl, rfl⟩) rfl (by first | exact Nat.le_of_ble_eq_true rfl | simp) (by decide) rfl) ?_
  rintro ⟨⟩
  refine VL.nil (VE.then_wp (V.seq (V.region ?_)))
  refine vq (yq_loadS rfl Try.underlying30 sz30_Design rfl zz0 rfl rfl rfl) ?_
  refine VL.s (.inl rfl) rfl (yc_store rfl sz30_Design rfl rfl zz8 (.inr ⟨rfl, rfl⟩) rfl (by first | exact Nat.le_of_ble_eq_true rfl | simp) (by decide) rfl) ?_
  rintro ⟨⟩
  refine VL.nil (VE.then_wp (V.ret ?_))
  refine retC rfl (rv_cellS rfl Try.underlying30 sz30_Design zz0 rfl rfl rfl) (by nofun) (fun w1 hw => ?_)
  exact ⟨((b6, f6), (a10, c10), (a14, c14)), rfl, hw.outs ((((List.sublist_append_left _ _).cons_cons _).cons_cons _).cons_cons _)⟩
theorem c_isRows [PhC] {w : World} (n : Nat) : Pure Try.prog 61 [.int .i64 (n : Int)] w (.bool (decide (1 ≤ n ∧ n ≤ 48))) := by
  refine Pure.enter Try.func61 rfl Try.ntmps61 (Nat.le_of_ble_eq_true rfl) ?_
  refine V.seq (V.region ?_)
  refine vr (yr_assign (u := .bool false) rfl rfl) ?_
  refine VL.nil (VE.then_wp (V.seq (V.region ?_)))
  refine vr (yr_move rfl rfl) ?_
  refine vr (yr_icmp rfl (.inr (.inr (.inr (.inr (.inr rfl))))) rfl rfl) ?_
  refine vr (yr_move rfl rfl) ?_
  refine VX.split 5 _ rfl (fun h1 => ?_) (fun h1 => ?_)
  · skip
    replace h1 := ic_geq h1
    refine VL.r (.inr ⟨_, _, _, rfl, rfl, rfl⟩) rfl (by decide) (yr_move rfl rfl) ?_
    refine VL.r (.inr ⟨_, _, _, rfl, rfl, rfl⟩) rfl (by decide) (yr_icmp rfl (.inr (.inr (.inr (.inl rfl)))) rfl rfl) ?_
    refine vr (yr_pick_t rfl rfl rfl) ?_
    refine vr (yr_assign rfl rfl) ?_
    refine VL.nil (VE.then_wp (V.ret ?_))
    refine ret1 rfl rfl (fun w1 hw => ?_)
    refine ⟨congrArg Value.bool ?_, hw.below⟩
    rw [Bool.eq_iff_iff, decide_eq_true_eq]
    constructor
    · intro h; have := ic_leq h; omega
    · intro h; exact decide_eq_true (by omega)
  replace h1 := ic_geq' h1
  refine vn ?_
  refine vn ?_
  refine vr (yr_pick_f (u := .bool false) rfl rfl rfl) ?_
  refine vr (yr_assign rfl rfl) ?_
  refine VL.nil (VE.then_wp (V.ret ?_))
  refine ret1 rfl rfl (fun w1 hw => ?_)
  exact ⟨by rw [decide_eq_false (by omega)], hw.below⟩
theorem c_isUnknowns [PhC] {w : World} (n : Nat) : Pure Try.prog 62 [.int .i64 (n : Int)] w (.bool (decide (1 ≤ n ∧ n ≤ 8))) := by
  refine Pure.enter Try.func62 rfl Try.ntmps62 (Nat.le_of_ble_eq_true rfl) ?_
  refine V.seq (V.region ?_)
  refine vr (yr_assign (u := .bool false) rfl rfl) ?_
  refine VL.nil (VE.then_wp (V.seq (V.region ?_)))
  refine vr (yr_move rfl rfl) ?_
  refine vr (yr_icmp rfl (.inr (.inr (.inr (.inr (.inr rfl))))) rfl rfl) ?_
  refine vr (yr_move rfl rfl) ?_
  refine VX.split 5 _ rfl (fun h1 => ?_) (fun h1 => ?_)
  · skip
    replace h1 := ic_geq h1
    refine VL.r (.inr ⟨_, _, _, rfl, rfl, rfl⟩) rfl (by decide) (yr_move rfl rfl) ?_
    refine VL.r (.inr ⟨_, _, _, rfl, rfl, rfl⟩) rfl (by decide) (yr_icmp rfl (.inr (.inr (.inr (.inl rfl)))) rfl rfl) ?_
    refine vr (yr_pick_t rfl rfl rfl) ?_
    refine vr (yr_assign rfl rfl) ?_
    refine VL.nil (VE.then_wp (V.ret ?_))
    refine ret1 rfl rfl (fun w1 hw => ?_)
    refine ⟨congrArg Value.bool ?_, hw.below⟩
    rw [Bool.eq_iff_iff, decide_eq_true_eq]
    constructor
    · intro h; have := ic_leq h; omega
    · intro h; exact decide_eq_true (by omega)
  replace h1 := ic_geq' h1
  refine vn ?_
  refine vn ?_
  refine vr (yr_pick_f (u := .bool false) rfl rfl rfl) ?_
  refine vr (yr_assign rfl rfl) ?_
  refine VL.nil (VE.then_wp (V.ret ?_))
  refine ret1 rfl rfl (fun w1 hw => ?_)
  exact ⟨by rw [decide_eq_false (by omega)], hw.below⟩
theorem c_l07Is [PhC] {w : World} {q : Option Addr} {a a1 a2 : Option Addr} {c c1 c2 : Nat} {f : Nat → Option Addr × Nat} {xss : List (List Nat)} {ws gs : List Nat} (hQ : Cl w q [.slice a xss.length c, .slice a1 ws.length c1, .slice a2 gs.length c2]) (hA : Cl w a (hd f xss)) (hR : Rws w f xss) (hW : Cl w a1 (fl ws)) (hG : Cl w a2 (fl gs)) (hsz : bulk xss + ws.length + gs.length ≤ 1050000) : Pure Try.prog 33 [.pointer (some (adr q 0))] w (.bool (validD xss ws gs)) := by
  refine Pure.enter Try.func33 rfl Try.ntmps33 (Nat.le_of_ble_eq_true rfl) ?_
  have hr : ∀ i, i < xss.length → (xss.getD i []).length ≤ 1050000 := fun i hi => by have := bulk_row hi; omega
  have hxl : xss.length ≤ bulk xss := by unfold bulk; omega
  refine V.seq (V.region ?_)
  refine vr (yr_assign (u := .bool false) rfl rfl) ?_
  refine VL.nil (VE.then_wp (V.seq (V.region ?_)))
  refine vr (yr_move rfl rfl) ?_
  refine vr (yr_nilCheck rfl rfl) ?_
  refine vr (yr_fieldAddr rfl Try.underlying30 rfl rfl sz22_Design (by decide) rfl) ?_
  refine vq (yq_load rfl fb22_Design rfl zz0 rfl) ?_
  refine vr (yr_len rfl Try.underlying22 rfl) ?_
  refine vr (yr_assign rfl rfl) ?_
  refine VL.nil (VE.then_wp (V.seq (V.seq (V.region ?_))))
  refine vr (yr_move rfl rfl) ?_
  refine vr (yr_icmp rfl (.inr (.inr (.inl rfl))) rfl rfl) ?_
  refine vr (yr_move rfl rfl) ?_
  refine VX.split 13 _ rfl (fun h1 => ?_) (fun h1 => ?_)
  · skip
    replace h1 := ic_lss h1
    refine vn ?_
    refine vn ?_
    refine vr (yr_pick_t (u := .bool true) rfl rfl rfl) ?_
    refine vr (yr_move rfl rfl) ?_
    refine vn ?_
    refine vn ?_
    refine vn ?_
    refine vn ?_
    refine vn ?_
    refine vn ?_
    refine vn ?_
    refine vr (yr_pick_t (u := .bool true) rfl rfl rfl) ?_
    refine vr (yr_move rfl rfl) ?_
    refine vn ?_
    refine vn ?_
    refine vn ?_
    refine vn ?_
    refine vn ?_
    refine vn ?_
    refine vn ?_
    refine vr (yr_pick_t (u := .bool true) rfl rfl rfl) ?_
    refine VL.nil (VE.then_wp ?_)
    refine V.condT rfl ?_
    refine V.seq (V.region ?_)
    refine vr (yr_assign (u := .bool false) rfl rfl) ?_
    refine VL.nil (VE.then_wp (V.ret (VE.then_ret ?_)))
    refine ret1 rfl rfl (fun w1 hw => ?_)
    refine ⟨congrArg Value.bool (valid_no fun hv => ?_).symm, hw.below⟩
    obtain ⟨v1, v2, v3, v4, v5, v6, v7, v8⟩ := hv
    omega
  replace h1 := ic_lss' h1
  refine VL.r (.inr ⟨_, _, _, rfl, rfl, rfl⟩) rfl (by decide) (yr_move rfl rfl) ?_
  refine VL.r (.inr ⟨_, _, _, rfl, rfl, rfl⟩) rfl (by decide) (yr_icmp rfl (.inr (.inr (.inr (.inr (.inl rfl))))) rfl rfl) ?_
  refine vr (yr_pick_f rfl rfl rfl) ?_
  refine vr (yr_move rfl rfl) ?_
  refine VX.split 17 _ rfl (fun h3 => ?_) (fun h3 => ?_)
  · skip
    replace h3 := ic_gtr h3
    refine vn ?_
    refine vn ?_
    refine vn ?_
    refine vn ?_
    refine vn ?_
    refine vn ?_
    refine vn ?_
    refine vr (yr_pick_t (u := .bool true) rfl rfl rfl) ?_
    refine vr (yr_move rfl rfl) ?_
    refine vn ?_
    refine vn ?_
    refine vn ?_
    refine vn ?_
    refine vn ?_
    refine vn ?_
    refine vn ?_
    refine vr (yr_pick_t (u := .bool true) rfl rfl rfl) ?_
    refine VL.nil (VE.then_wp ?_)
    refine V.condT rfl ?_
    refine V.seq (V.region ?_)
    refine vr (yr_assign (u := .bool false) rfl rfl) ?_
    refine VL.nil (VE.then_wp (V.ret (VE.then_ret ?_)))
    refine ret1 rfl rfl (fun w1 hw => ?_)
    refine ⟨congrArg Value.bool (valid_no fun hv => ?_).symm, hw.below⟩
    obtain ⟨v1, v2, v3, v4, v5, v6, v7, v8⟩ := hv
    omega
  replace h3 := ic_gtr' h3
  refine VL.r (.inr ⟨_, _, _, rfl, rfl, rfl⟩) rfl (by decide) (yr_move rfl rfl) ?_
  refine VL.r (.inr ⟨_, _, _, rfl, rfl, rfl⟩) rfl (by decide) (yr_nilCheck rfl rfl) ?_
  refine VL.r (.inr ⟨_, _, _, rfl, rfl, rfl⟩) rfl (by decide) (yr_fieldAddr rfl Try.underlying30 rfl rfl sz23_Design (by decide) rfl) ?_
  refine VL.q (.inr ⟨_, _, _, rfl, rfl, rfl⟩) rfl (by decide) (yq_load rfl fb23_Design rfl zz0 rfl) ?_
  refine VL.r (.inr ⟨_, _, _, rfl, rfl, rfl⟩) rfl (by decide) (yr_len rfl Try.underlying23 rfl) ?_
  refine VL.r (.inr ⟨_, _, _, rfl, rfl, rfl⟩) rfl (by decide) (yr_move rfl rfl) ?_
  refine VL.r (.inr ⟨_, _, _, rfl, rfl, rfl⟩) rfl (by decide) (yr_icmp rfl (.inr (.inl rfl)) rfl rfl) ?_
  refine vr (yr_pick_f rfl rfl rfl) ?_
  refine vr (yr_move rfl rfl) ?_
  refine VX.split 26 _ rfl (fun h5 => ?_) (fun h5 => ?_)
  · skip
    replace h5 := ic_neq h5
    refine vn ?_
    refine vn ?_
    refine vn ?_
    refine vn ?_
    refine vn ?_
    refine vn ?_
    refine vn ?_
    refine vr (yr_pick_t (u := .bool true) rfl rfl rfl) ?_
    refine VL.nil (VE.then_wp ?_)
    refine V.condT rfl ?_
    refine V.seq (V.region ?_)
    refine vr (yr_assign (u := .bool false) rfl rfl) ?_
    refine VL.nil (VE.then_wp (V.ret (VE.then_ret ?_)))
    refine ret1 rfl rfl (fun w1 hw => ?_)
    refine ⟨congrArg Value.bool (valid_no fun hv => ?_).symm, hw.below⟩
    obtain ⟨v1, v2, v3, v4, v5, v6, v7, v8⟩ := hv
    omega
  replace h5 := ic_neq' h5
  refine VL.r (.inr ⟨_, _, _, rfl, rfl, rfl⟩) rfl (by decide) (yr_move rfl rfl) ?_
  refine VL.r (.inr ⟨_, _, _, rfl, rfl, rfl⟩) rfl (by decide) (yr_nilCheck rfl rfl) ?_
  refine VL.r (.inr ⟨_, _, _, rfl, rfl, rfl⟩) rfl (by decide) (yr_fieldAddr rfl Try.underlying30 rfl rfl sz23_Design (by decide) rfl) ?_
  refine VL.q (.inr ⟨_, _, _, rfl, rfl, rfl⟩) rfl (by decide) (yq_load rfl fb23_Design rfl zz0 rfl) ?_
  refine VL.r (.inr ⟨_, _, _, rfl, rfl, rfl⟩) rfl (by decide) (yr_move rfl rfl) ?_
  refine VL.q (.inr ⟨_, _, _, rfl, rfl, rfl⟩) rfl (by decide) (yq_callf rfl known68_Design (.cons rfl (.cons rfl .nil)) (fun w hw => (c_l07Row zz1 (by omega)))) ?_
  refine VL.r (.inr ⟨_, _, _, rfl, rfl, rfl⟩) rfl (by decide) (yr_not rfl rfl) ?_
  refine vr (yr_pick_f rfl rfl rfl) ?_
  refine VL.nil (VE.then_wp ?_)
  refine V.cond rfl (fun h7 => ?_) (fun h7 => ?_)
  · skip
    replace h7 := bnot_t h7
    refine V.seq (V.region ?_)
    refine vr (yr_assign (u := .bool false) rfl rfl) ?_
    refine VL.nil (VE.then_wp (V.ret (VE.then_ret ?_)))
    refine ret1 rfl rfl (fun w1 hw => ?_)
    refine ⟨congrArg Value.bool (valid_no fun hv => ?_).symm, hw.below⟩
    obtain ⟨v1, v2, v3, v4, v5, v6, v7, v8⟩ := hv
    exact rowOk_f (by assumption) ⟨by omega, v5⟩
  replace h7 := bnot_f h7
  refine V.skip (VE.then_wp (V.seq (V.region ?_)))
  refine vr (yr_move rfl rfl) ?_
  refine vr (yr_nilCheck rfl rfl) ?_
  refine vr (yr_fieldAddr rfl Try.underlying30 rfl rfl sz22_Design (by decide) rfl) ?_
  refine vq (yq_load rfl fb22_Design rfl zz0 rfl) ?_
  refine vq (yq_idx (k := 0) rfl Try.underlying22 sz23_Design rfl rfl zz0 zz3 (by first | exact fl_length _ | exact hd_length _ _ | simp) (by omega)) ?_
  refine vq (yq_loadH rfl fb23_Design rfl zz0 (by omega)) ?_
  refine vr (yr_len rfl Try.underlying23 rfl) ?_
  refine vr (yr_assign rfl rfl) ?_
  refine VL.nil (VE.then_wp (V.seq (V.seq (V.region ?_))))
  refine vr (yr_move rfl rfl) ?_
  refine vr (yr_nilCheck rfl rfl) ?_
  refine vr (yr_fieldAddr rfl Try.underlying30 rfl rfl sz22_Design (by decide) rfl) ?_
  refine vq (yq_load rfl fb22_Design rfl zz0 rfl) ?_
  refine vr (yr_len rfl Try.underlying22 rfl) ?_
  refine vr (yr_move (u := .int .i64 0) rfl rfl) ?_
  refine VL.nil (VE.then_wp (V.block ?_))
  refine V.loops (G := Nat) [(0, _), (4, _), (46, _)] (fun (k : Nat) => k ≤ xss.length ∧ ∀ j, j < k → rowOk (xss.getD j []) (xss.getD 0 []).length = true ∧ least (gs.getD j 0) = true) (fun (k : Nat) => [(47, .int .i64 (k : Int))]) (fun (k : Nat) => xss.length - k) 0 (.cons rfl (.cons rfl (.cons rfl .nil))) (.cons rfl .nil) ?_ ?_
  · exact (by exact ⟨by omega, fun j h => by omega⟩)
  rintro k ⟨hk, hI⟩
  show V _ _ _ _ ([(47, .int .i64 (k : Int))] ++ [(0, _), (4, _), (46, _)]) _ _
  refine V.seq (V.region ?_)
  refine vr (yr_icmp rfl (.inr (.inr (.inl rfl))) rfl rfl) ?_
  refine VL.nil (VE.then_wp (V.seq ?_))
  refine V.cond rfl (fun h8 => ?_) (fun h8 => ?_)
  · skip
    replace h8 := ic_lss h8
    refine V.skip (VE.then_wp (V.seq (V.block (V.seq (V.region ?_)))))
    refine vr (yr_move rfl rfl) ?_
    refine vr (yr_assign rfl rfl) ?_
    refine VL.nil (VE.then_wp (V.seq (V.region ?_)))
    refine vr (yr_move rfl rfl) ?_
    refine vr (yr_nilCheck rfl rfl) ?_
    refine vr (yr_fieldAddr rfl Try.underlying30 rfl rfl sz22_Design (by decide) rfl) ?_
    refine vq (yq_load rfl fb22_Design rfl zz0 rfl) ?_
    refine vr (yr_move rfl rfl) ?_
    refine vq (yq_idx (k := k) rfl Try.underlying22 sz23_Design rfl rfl zz0 zz3 (by first | exact fl_length _ | exact hd_length _ _ | simp) (by omega)) ?_
    refine vq (yq_loadH rfl fb23_Design rfl zz0 (by omega)) ?_
    refine vr (yr_move rfl rfl) ?_
    refine vq (yq_callf rfl known68_Design (.cons rfl (.cons rfl .nil)) (fun w hw => (c_l07Row (hR.root hw k (by omega)) (hr k (by omega))))) ?_
    refine vr (yr_not rfl rfl) ?_
    refine vr (yr_move rfl rfl) ?_
    refine VX.split 60 _ rfl (fun h9 => ?_) (fun h9 => ?_)
    · skip
      replace h9 := bnot_t h9
      refine vn ?_
      refine vn ?_
      refine vn ?_
      refine vn ?_
      refine vn ?_
      refine vn ?_
      refine vn ?_
      refine vn ?_
      refine vn ?_
      refine vr (yr_pick_t (u := .bool true) rfl rfl rfl) ?_
      refine VL.nil (VE.then_wp ?_)
      refine V.condT rfl ?_
      refine V.seq (V.region ?_)
      refine vr (yr_assign (u := .bool false) rfl rfl) ?_
      refine VL.nil (VE.then_wp (V.ret ?_))
      refine VE.block_ret ?_
      refine VE.then_ret (VE.then_ret ?_)
      refine VE.block_ret ?_
      refine VE.then_ret ?_
      refine ret1 rfl rfl (fun w1 hw => ?_)
      refine ⟨congrArg Value.bool (valid_no fun hv => ?_).symm, hw.below⟩
      obtain ⟨v1, v2, v3, v4, v5, v6, v7, v8⟩ := hv
      exact rowOk_f (by assumption) ⟨(v6 k (by omega)).1, (v6 k (by omega)).2.1⟩
    replace h9 := bnot_f h9
    refine VL.r (.inr ⟨_, _, _, rfl, rfl, rfl⟩) rfl (by decide) (yr_move rfl rfl) ?_
    refine VL.r (.inr ⟨_, _, _, rfl, rfl, rfl⟩) rfl (by decide) (yr_nilCheck rfl rfl) ?_
    refine VL.r (.inr ⟨_, _, _, rfl, rfl, rfl⟩) rfl (by decide) (yr_fieldAddr rfl Try.underlying30 rfl rfl sz23_Design (by decide) rfl) ?_
    refine VL.q (.inr ⟨_, _, _, rfl, rfl, rfl⟩) rfl (by decide) (yq_load rfl fb23_Design rfl zz0 rfl) ?_
    refine VL.r (.inr ⟨_, _, _, rfl, rfl, rfl⟩) rfl (by decide) (yr_move rfl rfl) ?_
    refine VL.q (.inr ⟨_, _, _, rfl, rfl, rfl⟩) rfl (by decide) (yq_idx (k := k) rfl Try.underlying23 sz26_Design rfl rfl zz0 zz3 (by first | exact fl_length _ | exact hd_length _ _ | simp) (by omega)) ?_
    refine VL.q (.inr ⟨_, _, _, rfl, rfl, rfl⟩) rfl (by decide) (yq_loadF rfl fb26_Design rfl zz0 (by omega)) ?_
    refine VL.q (.inr ⟨_, _, _, rfl, rfl, rfl⟩) rfl (by decide) (yq_callf rfl known34_Design (.cons rfl .nil) (fun w hw => c_l03Least _)) ?_
    refine VL.r (.inr ⟨_, _, _, rfl, rfl, rfl⟩) rfl (by decide) (yr_not rfl rfl) ?_
    refine vr (yr_pick_f rfl rfl rfl) ?_
    refine VL.nil (VE.then_wp ?_)
    refine V.cond rfl (fun h11 => ?_) (fun h11 => ?_)
    · skip
      replace h11 := bnot_t h11
      refine V.seq (V.region ?_)
      refine vr (yr_assign (u := .bool false) rfl rfl) ?_
      refine VL.nil (VE.then_wp (V.ret ?_))
      refine VE.block_ret ?_
      refine VE.then_ret (VE.then_ret ?_)
      refine VE.block_ret ?_
      refine VE.then_ret ?_
      refine ret1 rfl rfl (fun w1 hw => ?_)
      refine ⟨congrArg Value.bool (valid_no fun hv => ?_).symm, hw.below⟩
      obtain ⟨v1, v2, v3, v4, v5, v6, v7, v8⟩ := hv
      have := (v6 k (by omega)).2.2
      simp_all
    replace h11 := bnot_f h11
    refine V.skip (VE.block_normal (VE.then_wp (V.region ?_)))
    refine vr (yr_int rfl rfl rfl (.inl ⟨rfl, wrap_in (by omega)⟩)) ?_
    refine vr (yr_move rfl rfl) ?_
    refine VL.nil ?_
    refine VE.round (k + 1) ?_ ?_ ?_ ?_ ?_
    · exact (.cons rfl .nil)
    · exact (.cons rfl (.cons rfl (.cons rfl .nil)))
    · exact (fun w hw => hw)
    · exact ⟨by omega, fun j hj => by rcases Nat.lt_or_ge j k with h | h; exact hI j h; obtain rfl : j = k := (by omega); exact ⟨by assumption, by assumption⟩⟩
    · (try dsimp only); omega
  replace h8 := ic_lss' h8
  refine V.exit ?_
  refine VE.then_exit (VE.then_exit (VE.block_here (VE.then_wp (V.seq (V.region ?_)))))
  refine vr (yr_move rfl rfl) ?_
  refine vr (yr_icmp rfl (.inr (.inr (.inr (.inr (.inr rfl))))) rfl rfl) ?_
  refine vr (yr_move rfl rfl) ?_
  refine VX.split 74 _ rfl (fun h12 => ?_) (fun h12 => ?_)
  · skip
    replace h12 := ic_geq h12
    refine VL.r (.inr ⟨_, _, _, rfl, rfl, rfl⟩) rfl (by decide) (yr_move rfl rfl) ?_
    refine VL.r (.inr ⟨_, _, _, rfl, rfl, rfl⟩) rfl (by decide) (yr_icmp rfl (.inr (.inr (.inr (.inl rfl)))) rfl rfl) ?_
    refine vr (yr_pick_t rfl rfl rfl) ?_
    refine vr (yr_assign rfl rfl) ?_
    refine VL.nil (VE.then_wp (V.ret ?_))
    refine ret1 rfl rfl (fun w1 hw => ?_)
    obtain rfl : k = xss.length := by omega
    refine ⟨congrArg Value.bool ?_, hw.below⟩
    have hwk := rowOk_t (xs := ws) (by assumption)
    rw [Bool.eq_iff_iff]
    constructor
    · intro h
      have := ic_leq h
      exact valid_yes ⟨by omega, by omega, by omega, by omega, hwk.2, fun i hi => ⟨(rowOk_t (hI i hi).1).1, (rowOk_t (hI i hi).1).2, (hI i hi).2⟩, by omega, by omega⟩
    · intro h
      obtain ⟨v1, v2, v3, v4, v5, v6, v7, v8⟩ := valid_is h
      exact decide_eq_true (by omega)
  replace h12 := ic_geq' h12
  refine vn ?_
  refine vn ?_
  refine vr (yr_pick_f (u := .bool false) rfl rfl rfl) ?_
  refine vr (yr_assign rfl rfl) ?_
  refine VL.nil (VE.then_wp (V.ret ?_))
  refine ret1 rfl rfl (fun w1 hw => ?_)
  refine ⟨congrArg Value.bool (valid_no fun hv => ?_).symm, hw.below⟩
  obtain ⟨v1, v2, v3, v4, v5, v6, v7, v8⟩ := hv
  omega
theorem c_vd1 [PhC] {w : World} {q ra a : Option Addr} {rc c : Nat} {u1 u2 : Value} {xs : List Nat} {f : Nat → Option Addr × Nat} {xss : List (List Nat)} (hX : Cl w ra (fl xs)) (hQ : Cl w q [.slice a xss.length c, u1, u2]) (hA : Cl w a (hd f xss)) (h0 : 0 < xss.length) (hn : xs.length ≤ 1050000) : Pure Try.prog 64 [.slice ra xs.length rc, .pointer (some (adr q 0))] w (.bool (!rowOk xs (xss.getD 0 []).length)) := by
  refine Pure.enter Try.func64 rfl Try.ntmps64 (Nat.le_of_ble_eq_true rfl) ?_
  refine V.seq (V.region ?_)
  refine vr (yr_assign (u := .bool false) rfl rfl) ?_
  refine VL.nil (VE.then_wp (V.seq (V.region ?_)))
  refine vr (yr_move rfl rfl) ?_
  refine vr (yr_len rfl Try.underlying23 rfl) ?_
  refine vr (yr_fieldAddr rfl Try.underlying30 rfl rfl sz22_Design (by decide) rfl) ?_
  refine vq (yq_load rfl fb22_Design rfl zz0 rfl) ?_
  refine vq (yq_idx (k := 0) rfl Try.underlying22 sz23_Design rfl rfl zz0 zz3 (by first | exact fl_length _ | exact hd_length _ _ | simp) (by omega)) ?_
  refine vq (yq_loadH rfl fb23_Design rfl zz0 (by omega)) ?_
  refine vr (yr_len rfl Try.underlying23 rfl) ?_
  refine vr (yr_icmp rfl (.inr (.inl rfl)) rfl rfl) ?_
  refine vr (yr_move rfl rfl) ?_
  refine VX.split 12 _ rfl (fun h1 => ?_) (fun h1 => ?_)
  · skip
    replace h1 := ic_neq h1
    refine vn ?_
    refine vn ?_
    refine vn ?_
    refine vr (yr_pick_t (u := .bool true) rfl rfl rfl) ?_
    refine vr (yr_assign rfl rfl) ?_
    refine VL.nil (VE.then_wp (V.ret ?_))
    refine ret1 rfl rfl (fun w1 hw => ?_)
    exact ⟨by rw [rowOk, decide_eq_false (by omega), Bool.and_false]; rfl, hw.below⟩
  replace h1 := ic_neq' h1
  refine VL.r (.inr ⟨_, _, _, rfl, rfl, rfl⟩) rfl (by decide) (yr_move rfl rfl) ?_
  refine VL.q (.inr ⟨_, _, _, rfl, rfl, rfl⟩) rfl (by decide) (yq_callf rfl known65_Design (.cons rfl .nil) (fun w hw => (c_areFinite zz1 (by omega)))) ?_
  refine VL.r (.inr ⟨_, _, _, rfl, rfl, rfl⟩) rfl (by decide) (yr_not rfl rfl) ?_
  refine vr (yr_pick_f rfl rfl rfl) ?_
  refine vr (yr_assign rfl rfl) ?_
  refine VL.nil (VE.then_wp (V.ret ?_))
  refine ret1 rfl rfl (fun w1 hw => ?_)
  exact ⟨by rw [rowOk, decide_eq_true (by omega), Bool.and_true], hw.below⟩
theorem c_implValid [PhC] {w : World} {a a1 a2 : Option Addr} {c c1 c2 : Nat} {f : Nat → Option Addr × Nat} {xss : List (List Nat)} {ws gs : List Nat} (hA : Cl w a (hd f xss)) (hR : Rws w f xss) (hW : Cl w a1 (fl ws)) (hG : Cl w a2 (fl gs)) (hsz : bulk xss + ws.length + gs.length ≤ 1050000) : Pure Try.prog 27 [.agg #[.slice a xss.length c, .slice a1 ws.length c1, .slice a2 gs.length c2]] w (.bool (validD xss ws gs)) := by
  refine Pure.enter Try.func27 rfl Try.ntmps27 (Nat.le_of_ble_eq_true rfl) ?_
  have hr : ∀ i, i < xss.length → (xss.getD i []).length ≤ 1050000 := fun i hi => by have := bulk_row hi; omega
  have hxl : xss.length ≤ bulk xss := by unfold bulk; omega
  refine V.seq (V.region ?_)
  refine VL.new1 (.inl rfl) rfl (by decide) (yn_box rfl rfl (.inr ⟨rfl, rfl⟩)) ?_
  intro b1
  refine vr (yr_assign (u := .bool false) rfl rfl) ?_
  refine VL.nil (VE.then_wp (V.seq (V.seq (V.region ?_))))
  refine vr (yr_fieldAddr rfl Try.underlying30 rfl rfl sz22_Design (by decide) rfl) ?_
  refine vq (yq_load rfl fb22_Design rfl zz0 rfl) ?_
  refine vr (yr_len rfl Try.underlying22 rfl) ?_
  refine vq (yq_callf rfl known61_Design (.cons rfl .nil) (fun w hw => c_isRows _)) ?_
  refine vr (yr_not rfl rfl) ?_
  refine vr (yr_move rfl rfl) ?_
  refine VX.split 8 _ rfl (fun h1 => ?_) (fun h1 => ?_)
  · skip
    replace h1 := bnot_t h1
    replace h1 := of_decide_eq_false h1
    refine vn ?_
    refine vn ?_
    refine vn ?_
    refine vn ?_
    refine vn ?_
    refine vn ?_
    refine vn ?_
    refine vr (yr_pick_t (u := .bool true) rfl rfl rfl) ?_
    refine vr (yr_move rfl rfl) ?_
    refine vn ?_
    refine vn ?_
    refine vn ?_
    refine vn ?_
    refine vn ?_
    refine vn ?_
    refine vn ?_
    refine vr (yr_pick_t (u := .bool true) rfl rfl rfl) ?_
    refine vr (yr_move rfl rfl) ?_
    refine vn ?_
    refine vn ?_
    refine vn ?_
    refine vn ?_
    refine vn ?_
    refine vn ?_
    refine vn ?_
    refine vr (yr_pick_t (u := .bool true) rfl rfl rfl) ?_
    refine VL.nil (VE.then_wp ?_)
    refine V.condT rfl ?_
    refine V.seq (V.region ?_)
    refine vr (yr_assign (u := .bool false) rfl rfl) ?_
    refine VL.nil (VE.then_wp (V.ret (VE.then_ret ?_)))
    refine ret1 rfl rfl (fun w1 hw => ?_)
    refine ⟨congrArg Value.bool (valid_no fun hv => ?_).symm, hw.below⟩
    obtain ⟨v1, v2, v3, v4, v5, v6, v7, v8⟩ := hv
    omega
  replace h1 := bnot_f h1
  replace h1 := of_decide_eq_true h1
  refine VL.r (.inr ⟨_, _, _, rfl, rfl, rfl⟩) rfl (by decide) (yr_fieldAddr rfl Try.underlying30 rfl rfl sz23_Design (by decide) rfl) ?_
  refine VL.q (.inr ⟨_, _, _, rfl, rfl, rfl⟩) rfl (by decide) (yq_load rfl fb23_Design rfl zz0 rfl) ?_
  refine VL.r (.inr ⟨_, _, _, rfl, rfl, rfl⟩) rfl (by decide) (yr_len rfl Try.underlying23 rfl) ?_
  refine VL.r (.inr ⟨_, _, _, rfl, rfl, rfl⟩) rfl (by decide) (yr_fieldAddr rfl Try.underlying30 rfl rfl sz22_Design (by decide) rfl) ?_
  refine VL.q (.inr ⟨_, _, _, rfl, rfl, rfl⟩) rfl (by decide) (yq_load rfl fb22_Design rfl zz0 rfl) ?_
  refine VL.r (.inr ⟨_, _, _, rfl, rfl, rfl⟩) rfl (by decide) (yr_len rfl Try.underlying22 rfl) ?_
  refine VL.r (.inr ⟨_, _, _, rfl, rfl, rfl⟩) rfl (by decide) (yr_icmp rfl (.inr (.inl rfl)) rfl rfl) ?_
  refine vr (yr_pick_f rfl rfl rfl) ?_
  refine vr (yr_move rfl rfl) ?_
  refine VX.split 17 _ rfl (fun h3 => ?_) (fun h3 => ?_)
  · skip
    replace h3 := ic_neq h3
    refine vn ?_
    refine vn ?_
    refine vn ?_
    refine vn ?_
    refine vn ?_
    refine vn ?_
    refine vn ?_
    refine vr (yr_pick_t (u := .bool true) rfl rfl rfl) ?_
    refine vr (yr_move rfl rfl) ?_
    refine vn ?_
    refine vn ?_
    refine vn ?_
    refine vn ?_
    refine vn ?_
    refine vn ?_
    refine vn ?_
    refine vr (yr_pick_t (u := .bool true) rfl rfl rfl) ?_
    refine VL.nil (VE.then_wp ?_)
    refine V.condT rfl ?_
    refine V.seq (V.region ?_)
    refine vr (yr_assign (u := .bool false) rfl rfl) ?_
    refine VL.nil (VE.then_wp (V.ret (VE.then_ret ?_)))
    refine ret1 rfl rfl (fun w1 hw => ?_)
    refine ⟨congrArg Value.bool (valid_no fun hv => ?_).symm, hw.below⟩
    obtain ⟨v1, v2, v3, v4, v5, v6, v7, v8⟩ := hv
    omega
  replace h3 := ic_neq' h3
  refine VL.r (.inr ⟨_, _, _, rfl, rfl, rfl⟩) rfl (by decide) (yr_fieldAddr rfl Try.underlying30 rfl rfl sz23_Design (by decide) rfl) ?_
  refine VL.q (.inr ⟨_, _, _, rfl, rfl, rfl⟩) rfl (by decide) (yq_load rfl fb23_Design rfl zz0 rfl) ?_
  refine VL.r (.inr ⟨_, _, _, rfl, rfl, rfl⟩) rfl (by decide) (yr_len rfl Try.underlying23 rfl) ?_
  refine VL.r (.inr ⟨_, _, _, rfl, rfl, rfl⟩) rfl (by decide) (yr_fieldAddr rfl Try.underlying30 rfl rfl sz22_Design (by decide) rfl) ?_
  refine VL.q (.inr ⟨_, _, _, rfl, rfl, rfl⟩) rfl (by decide) (yq_load rfl fb22_Design rfl zz0 rfl) ?_
  refine VL.r (.inr ⟨_, _, _, rfl, rfl, rfl⟩) rfl (by decide) (yr_len rfl Try.underlying22 rfl) ?_
  refine VL.r (.inr ⟨_, _, _, rfl, rfl, rfl⟩) rfl (by decide) (yr_icmp rfl (.inr (.inl rfl)) rfl rfl) ?_
  refine vr (yr_pick_f rfl rfl rfl) ?_
  refine vr (yr_move rfl rfl) ?_
  refine VX.split 26 _ rfl (fun h5 => ?_) (fun h5 => ?_)
  · skip
    replace h5 := ic_neq h5
    refine vn ?_
    refine vn ?_
    refine vn ?_
    refine vn ?_
    refine vn ?_
    refine vn ?_
    refine vn ?_
    refine vr (yr_pick_t (u := .bool true) rfl rfl rfl) ?_
    refine VL.nil (VE.then_wp ?_)
    refine V.condT rfl ?_
    refine V.seq (V.region ?_)
    refine vr (yr_assign (u := .bool false) rfl rfl) ?_
    refine VL.nil (VE.then_wp (V.ret (VE.then_ret ?_)))
    refine ret1 rfl rfl (fun w1 hw => ?_)
    refine ⟨congrArg Value.bool (valid_no fun hv => ?_).symm, hw.below⟩
    obtain ⟨v1, v2, v3, v4, v5, v6, v7, v8⟩ := hv
    omega
  replace h5 := ic_neq' h5
  refine VL.r (.inr ⟨_, _, _, rfl, rfl, rfl⟩) rfl (by decide) (yr_fieldAddr rfl Try.underlying30 rfl rfl sz22_Design (by decide) rfl) ?_
  refine VL.q (.inr ⟨_, _, _, rfl, rfl, rfl⟩) rfl (by decide) (yq_load rfl fb22_Design rfl zz0 rfl) ?_
  refine VL.q (.inr ⟨_, _, _, rfl, rfl, rfl⟩) rfl (by decide) (yq_idx (k := 0) rfl Try.underlying22 sz23_Design rfl rfl zz0 zz3 (by first | exact fl_length _ | exact hd_length _ _ | simp) (by omega)) ?_
  refine VL.q (.inr ⟨_, _, _, rfl, rfl, rfl⟩) rfl (by decide) (yq_loadH rfl fb23_Design rfl zz0 (by omega)) ?_
  refine VL.r (.inr ⟨_, _, _, rfl, rfl, rfl⟩) rfl (by decide) (yr_len rfl Try.underlying23 rfl) ?_
  refine VL.q (.inr ⟨_, _, _, rfl, rfl, rfl⟩) rfl (by decide) (yq_callf rfl known62_Design (.cons rfl .nil) (fun w hw => c_isUnknowns _)) ?_
  refine VL.r (.inr ⟨_, _, _, rfl, rfl, rfl⟩) rfl (by decide) (yr_not rfl rfl) ?_
  refine vr (yr_pick_f rfl rfl rfl) ?_
  refine VL.nil (VE.then_wp ?_)
  refine V.cond rfl (fun h7 => ?_) (fun h7 => ?_)
  · skip
    replace h7 := bnot_t h7
    replace h7 := of_decide_eq_false h7
    refine V.seq (V.region ?_)
    refine vr (yr_assign (u := .bool false) rfl rfl) ?_
    refine VL.nil (VE.then_wp (V.ret (VE.then_ret ?_)))
    refine ret1 rfl rfl (fun w1 hw => ?_)
    refine ⟨congrArg Value.bool (valid_no fun hv => ?_).symm, hw.below⟩
    obtain ⟨v1, v2, v3, v4, v5, v6, v7, v8⟩ := hv
    omega
  replace h7 := bnot_f h7
  replace h7 := of_decide_eq_true h7
  refine V.skip (VE.then_wp (V.seq (V.seq (V.region ?_))))
  refine vr (yr_fieldAddr rfl Try.underlying30 rfl rfl sz22_Design (by decide) rfl) ?_
  refine vq (yq_load rfl fb22_Design rfl zz0 rfl) ?_
  refine vr (yr_func1 rfl rfl) ?_
  refine vq (yq_callf rfl known63_Design (.cons rfl (.cons rfl .nil)) (fun w hw => (c_hasR (p := fun k => !rowOk (xss.getD k []) (xss.getD 0 []).length) zz1 known64_Design (fun w1 hb k hk => c_vd1 ((hR.root hw k hk).below hb) (Cl.below (Sees.own (by repeat (first | exact List.mem_cons_self | apply List.mem_cons_of_mem | apply List.mem_append_right)) w hw) hb) ((Sees.root hA w hw).below hb) (by omega) (hr k hk)) (by omega)))) ?_
  refine VL.nil (VE.then_wp ?_)
  refine V.cond rfl (fun h8 => ?_) (fun h8 => ?_)
  · skip
    obtain ⟨k, hk, hp⟩ := idxI_t h8
    replace hp := bnot_t hp
    refine V.seq (V.region ?_)
    refine vr (yr_assign (u := .bool false) rfl rfl) ?_
    refine VL.nil (VE.then_wp (V.ret (VE.then_ret ?_)))
    refine ret1 rfl rfl (fun w1 hw => ?_)
    refine ⟨congrArg Value.bool (valid_no fun hv => ?_).symm, hw.below⟩
    obtain ⟨v1, v2, v3, v4, v5, v6, v7, v8⟩ := hv
    exact rowOk_f hp ⟨(v6 k hk).1, (v6 k hk).2.1⟩
  replace h8 := fun k hk => bnot_f (idxI_f h8 k hk)
  refine V.skip (VE.then_wp (V.seq (V.region ?_)))
  refine vr (yr_fieldAddr rfl Try.underlying30 rfl rfl sz23_Design (by decide) rfl) ?_
  refine vq (yq_load rfl fb23_Design rfl zz0 rfl) ?_
  refine vq (yq_callf rfl known65_Design (.cons rfl .nil) (fun w hw => (c_areFinite zz1 (by omega)))) ?_
  refine vr (yr_move rfl rfl) ?_
  refine VX.split 42 _ rfl (fun h9 => ?_) (fun h9 => ?_)
  · skip
    refine VL.r (.inr ⟨_, _, _, rfl, rfl, rfl⟩) rfl (by decide) (yr_fieldAddr rfl Try.underlying30 rfl rfl sz23_Design (by decide) rfl) ?_
    refine VL.q (.inr ⟨_, _, _, rfl, rfl, rfl⟩) rfl (by decide) (yq_load rfl fb23_Design rfl zz0 rfl) ?_
    refine VL.q (.inr ⟨_, _, _, rfl, rfl, rfl⟩) rfl (by decide) (yq_callf rfl known66_Design (.cons rfl .nil) (fun w hw => (c_areNotNeg zz1 (by omega)))) ?_
    refine vr (yr_pick_t rfl rfl rfl) ?_
    refine vr (yr_assign rfl rfl) ?_
    refine VL.nil (VE.then_wp (V.ret ?_))
    refine ret1 rfl rfl (fun w1 hw => ?_)
    refine ⟨congrArg Value.bool ?_, hw.below⟩
    have hrows := h8
    rw [Bool.eq_iff_iff]
    constructor
    · intro h
      have hl := all_getD.1 h
      exact valid_yes ⟨by omega, by omega, by omega, by omega, by assumption, fun i hi => ⟨(rowOk_t (hrows i hi)).1, (rowOk_t (hrows i hi)).2, hl i (by omega)⟩, by omega, by omega⟩
    · intro h
      obtain ⟨v1, v2, v3, v4, v5, v6, v7, v8⟩ := valid_is h
      exact all_getD.2 fun i hi => (v6 i (by omega)).2.2
  refine vn ?_
  refine vn ?_
  refine vn ?_
  refine vr (yr_pick_f (u := .bool false) rfl rfl rfl) ?_
  refine vr (yr_assign rfl rfl) ?_
  refine VL.nil (VE.then_wp (V.ret ?_))
  refine ret1 rfl rfl (fun w1 hw => ?_)
  refine ⟨congrArg Value.bool (valid_no fun hv => ?_).symm, hw.below⟩
  obtain ⟨v1, v2, v3, v4, v5, v6, v7, v8⟩ := hv
  simp_all
end Go.Proofs.Ytgeflnjjppgooaa.Q

namespace Go.Proofs.Ytgeflnjjppgooaa.Q
open Go.RowKit
namespace Dr
/-- What an operation makes whatever is there: by its place in the region. -/
abbrev Tab := List (Nat × ((Nat → Value) × (Nat → Ent)))
def Tab.get : Tab → Nat → (Nat → Value) × (Nat → Ent)
  | [], _ => (fun _ => undef, fun _ => ⟨none, [], 0, 0⟩)
  | (j, p) :: l, i => match Nat.beq j i with | true => p | false => Tab.get l i
section
variable {P : Program} {n : Nat} {w0 : World} {O R : List Ent} {T : Tab} {E : Env} {ops : Array Oper}
/-- Something new is made, whatever is there. -/
def YA [PhC] (P : Program) (E : Env) (o : Oper) (u : Nat → Value) (e : Nat → Ent) : Prop :=
  ∀ ρ w, Ev E o.op ρ → ResOk P (fun v w' => ∃ b, cn v = u b ∧ Below w.heap.size w w' ∧ Ent.at w.heap.size w' (e b)) ((execOp ρ o).run P w)
theorem YA.of [PhC] {o : Oper} {u : Nat → Value} {e : Nat → Ent} (h : ∀ w0, YN P w0 [] E o u (fun b => [e b])) : YA P E o u e := by
  intro ρ w hE
  refine (h w ρ w hE (Hp.refl w)).mono fun v w' ⟨b, h1, h2, h3, _⟩ => ⟨b, h1, h2, h3 _ List.mem_cons_self⟩
theorem YA.weaken [PhC] {E' : Env} {o : Oper} {u : Nat → Value} {e : Nat → Ent} (h : YA P E o u e) (hE : ∀ x ∈ o.op.operands, E'.opd x = E.opd x) : YA P E' o u e :=
  fun ρ w hρ => h ρ w (fun x hx u hu => hρ x hx u (by rw [hE x hx]; exact hu))
/-- What an operation does: a value and what is owned then, for some x. -/
inductive Eff [PhC] (P : Program) (w0 : World) (ops : Array Oper) (R : List Ent) : Kd → Oper → Env → List Ent → (X : Type) → (X → Value) → (X → List Ent) → Prop
  | skip {k : Kd} {o : Oper} {E : Env} {O : List Ent} : Guard ops E o false → Eff P w0 ops R k o E O Unit (fun _ => undef) (fun _ => O)
  | quiet {o : Oper} {E : Env} {O : List Ent} {u : Value} : Guard ops E o true → YQ P w0 (O ++ R) E o u → Eff P w0 ops R 0 o E O Unit (fun _ => u) (fun _ => O)
  | quietR {o : Oper} {E : Env} {O : List Ent} {u : Value} : Guard ops E o true → YQ P w0 R E o u → Eff P w0 ops R 5 o E O Unit (fun _ => u) (fun _ => O)
  | make {o : Oper} {E : Env} {O : List Ent} {X : Type} {u : X → Value} {N : X → List Ent} : Guard ops E o true → YN P w0 (O ++ R) E o u N → Eff P w0 ops R 1 o E O X u (fun x => N x ++ O)
  | turn {o : Oper} {E : Env} {O : List Ent} {X : Type} {u : X → Value} {O' : X → List Ent} : Guard ops E o true → YC P w0 (O ++ R) E o u (fun x => O' x ++ R) → Eff P w0 ops R 3 o E O X u O'
/-- One operation, and K behind it. -/
def Stp [PhC] (P : Program) (n : Nat) (w0 : World) (ops : Array Oper) (T : Tab) (k : Kd) (i : Nat) (o : Oper) (E : Env) (O R : List Ent) (K : Env → List Ent → List Ent → Prop) : Prop :=
  if k = 2 then o.guard = none ∧ DOk n o ∧ YA P E o (T.get i).1 (T.get i).2 ∧ ∀ b, K (putE E o.dst ((T.get i).1 b)) ((T.get i).2 b :: O) R
  else if k = 4 then ∃ (X : Type) (u : X → Value) (O' : X → List Ent), Nonempty X ∧ Guard ops E o true ∧ YC P w0 (O ++ R) E o u O' ∧ DOk n o ∧ ∀ x, K (putE E o.dst (u x)) (O' x) []
  else ∃ (X : Type) (u : X → Value) (O' : X → List Ent), Nonempty X ∧ Eff P w0 ops R k o E O X u O' ∧ DOk n o ∧ ∀ x, K (putE E o.dst (u x)) (O' x) R
/-- The walk: the operations of π in this order. -/
def SW [PhC] (P : Program) (n : Nat) (w0 : World) (ops : Array Oper) (T : Tab) (K : Env → List Ent → List Ent → Prop) : List (Nat × Kd) → Env → List Ent → List Ent → Prop
  | [], E, O, R => K E O R
  | (i, k) :: π, E, O, R => ∃ o, ops[i]? = some o ∧ Stp P n w0 ops T k i o E O R (SW P n w0 ops T K π)
/-- K does not look at the order of what is known. -/
def Lax3 [PhC] (w0 : World) (K : Env → List Ent → List Ent → Prop) : Prop :=
  ∀ E E' O O' R, (∀ t, E'.get t = E.get t) → (∀ F w, Hp w0 (F ++ O') w → Hp w0 (F ++ O) w) → K E O R → K E' O' R
theorem frame [PhC] {O' : List Ent} (h : ∀ F w, Hp w0 (F ++ O') w → Hp w0 (F ++ O) w) : ∀ F w, Hp w0 (F ++ (O' ++ R)) w → Hp w0 (F ++ (O ++ R)) w := by
  intro F w hw
  have h1 : (F ++ (O' ++ R)).Perm ((F ++ R) ++ O') := by
    rw [List.append_assoc]
    exact List.Perm.append_left F List.perm_append_comm
  have h2 : ((F ++ R) ++ O).Perm (F ++ (O ++ R)) := by
    rw [List.append_assoc]
    exact List.Perm.append_left F List.perm_append_comm
  exact (h (F ++ R) w (hw.perm' h1)).perm' h2
/-- The effect, seen from what says the same. -/
theorem Eff.lax [PhC] {E' : Env} {O' : List Ent} {k : Kd} {o : Oper} {X : Type} {u : X → Value} {S : X → List Ent} (hE : ∀ t, E'.get t = E.get t) (hO : ∀ F w, Hp w0 (F ++ O') w → Hp w0 (F ++ O) w) (h : Eff P w0 ops R k o E O X u S) :
    ∃ S', Eff P w0 ops R k o E' O' X u S' ∧ ∀ x F w, Hp w0 (F ++ S' x) w → Hp w0 (F ++ S x) w := by
  have hop := opd_same hE
  cases h with
  | skip hg => exact ⟨_, .skip (hg.same fun t _ => hE t), fun _ => hO⟩
  | quiet hg h => exact ⟨_, .quiet (hg.same fun t _ => hE t) (h.weaken (fun x _ => hop x) (hp_nil (frame hO))), fun _ => hO⟩
  | quietR hg h => exact ⟨_, .quietR (hg.same fun t _ => hE t) (h.weaken (fun x _ => hop x) (fun _ h => h)), fun _ => hO⟩
  | make hg h => exact ⟨_, .make (hg.same fun t _ => hE t) (h.weaken (fun x _ => hop x) (hp_nil (frame hO))), fun x => Hp.perm hO⟩
  | turn hg h => exact ⟨_, .turn (hg.same fun t _ => hE t) (fun ρ w F hρ hw => h ρ w F (fun x hx u hu => hρ x hx u (by rw [hop x]; exact hu)) (frame hO F w hw)), fun _ _ _ h => h⟩
theorem Stp.lax [PhC] {k : Kd} {i : Nat} {o : Oper} {K : Env → List Ent → List Ent → Prop} (hK : Lax3 w0 K) : Lax3 w0 (fun E O R => Stp P n w0 ops T k i o E O R K) := by
  intro E E' O O' R hE hO h
  simp only [Stp] at h ⊢
  split at h
  · rename_i hk
    rw [if_pos hk]
    exact ⟨h.1, h.2.1, h.2.2.1.weaken (fun x _ => opd_same hE x), fun b => hK _ _ _ _ _ (put_congr hE _ _) (fun F w => by simpa using Hp.perm (N := [(T.get i).2 b]) hO F w) (h.2.2.2 b)⟩
  · rename_i hk
    rw [if_neg hk]
    split at h
    · rename_i hk4
      rw [if_pos hk4]
      obtain ⟨X, u, S, h0, hg, h1, h2, h3⟩ := h
      exact ⟨X, u, S, h0, hg.same fun t _ => hE t, fun ρ w F hρ hw => h1 ρ w F (fun x hx u hu => hρ x hx u (by rw [opd_same hE x]; exact hu)) (frame hO F w hw), h2, fun x => hK _ _ _ _ _ (put_congr hE _ _) (fun _ _ h => h) (h3 x)⟩
    · rename_i hk4
      rw [if_neg hk4]
      obtain ⟨X, u, S, h0, h1, h2, h3⟩ := h
      obtain ⟨S', h4, h5⟩ := h1.lax hE hO
      exact ⟨X, u, S', h0, h4, h2, fun x => hK _ _ _ _ _ (put_congr hE _ _) (h5 x) (h3 x)⟩
theorem SW.lax [PhC] {K : Env → List Ent → List Ent → Prop} (hK : Lax3 w0 K) : ∀ π, Lax3 w0 (SW P n w0 ops T K π)
  | [] => hK
  | (i, k) :: π => by
    intro E E' O O' R hE hO ⟨o, ho, h⟩
    exact ⟨o, ho, Stp.lax (SW.lax hK π) _ _ _ _ _ hE hO h⟩
/-- p is walked before q; may q be carried out before p? -/
def swapOk [PhC] (ops : Array Oper) (kp kq : Kd) (p q : Oper) : Bool :=
  (match p.dst with | some d => !(q.looksAt ops).contains d && q.dst != some d | none => true) &&
  (match q.dst with | some d => !(p.looksAt ops).contains d | none => true) &&
  ((kp == 0 && (kq == 0 || kq == 1 || kq == 5)) || (kp == 5 && (kq == 0 || kq == 1 || kq == 3 || kq == 5)) || (kq == 2 && kp != 4))
theorem Eff.put [PhC] {k : Kd} {o : Oper} {d : Option Nat} {u : Value} {X : Type} {v : X → Value} {S : X → List Ent} (h : ∀ x, d = some x → (o.looksAt ops).contains x = false) :
    Eff P w0 ops R k o (putE E d u) O X v S ↔ Eff P w0 ops R k o E O X v S := by
  constructor
  · intro he
    cases he with
    | skip hg => exact .skip ((guard_put h).1 hg)
    | quiet hg hy => exact .quiet ((guard_put h).1 hg) (hy.weaken (fun x hx => (opd_put h u x hx).symm) fun _ h => h)
    | quietR hg hy => exact .quietR ((guard_put h).1 hg) (hy.weaken (fun x hx => (opd_put h u x hx).symm) fun _ h => h)
    | make hg hy => exact .make ((guard_put h).1 hg) (hy.weaken (fun x hx => (opd_put h u x hx).symm) fun _ h => h)
    | turn hg hy => exact .turn ((guard_put h).1 hg) (fun ρ w F hρ hw => hy ρ w F (fun x hx v hv => hρ x hx v (by rw [← opd_put h u x hx]; exact hv)) hw)
  · intro he
    cases he with
    | skip hg => exact .skip ((guard_put h).2 hg)
    | quiet hg hy => exact .quiet ((guard_put h).2 hg) (hy.weaken (fun x hx => opd_put h u x hx) fun _ h => h)
    | quietR hg hy => exact .quietR ((guard_put h).2 hg) (hy.weaken (fun x hx => opd_put h u x hx) fun _ h => h)
    | make hg hy => exact .make ((guard_put h).2 hg) (hy.weaken (fun x hx => opd_put h u x hx) fun _ h => h)
    | turn hg hy => exact .turn ((guard_put h).2 hg) (fun ρ w F hρ hw => hy ρ w F (fun x hx v hv => hρ x hx v (by rw [opd_put h u x hx]; exact hv)) hw)
/-- .. with one entry more -/
theorem Eff.beside [PhC] {k : Kd} {o : Oper} {e : Ent} {X : Type} {v : X → Value} {S : X → List Ent} (he : Eff P w0 ops R k o E O X v S) :
    ∃ S', Eff P w0 ops R k o E (e :: O) X v S' ∧ ∀ x F w, Hp w0 (F ++ S' x) w → Hp w0 (F ++ (e :: S x)) w := by
  have hsub : ∀ w, Hp w0 (e :: O ++ R) w → Hp w0 (O ++ R) w := fun w h => h.sub (List.sublist_cons_self e (O ++ R))
  cases he with
  | skip hg => exact ⟨_, .skip hg, fun _ _ _ h => h⟩
  | quiet hg hy => exact ⟨_, .quiet hg (hy.weaken (fun _ _ => rfl) hsub), fun _ _ _ h => h⟩
  | quietR hg hy => exact ⟨_, .quietR hg hy, fun _ _ _ h => h⟩
  | make hg hy =>
    exact ⟨_, .make hg (hy.weaken (fun _ _ => rfl) hsub), fun x F w h => swap_hp (N := _) (M := [e]) F w h⟩
  | turn hg hy =>
    refine ⟨fun x => e :: S x, .turn hg fun ρ w F hρ hw => ?_, fun _ _ _ h => h⟩
    have := hy ρ w (F ++ [e]) hρ (by simpa using hw)
    refine this.mono fun v w' ⟨x, h1, h2⟩ => ⟨x, h1, by simpa using h2⟩
theorem Stp.swap [PhC] {kp kq : Kd} {ip iq : Nat} {p q : Oper} {K : Env → List Ent → List Ent → Prop} (hK : Lax3 w0 K) (hs : swapOk ops kp kq p q = true)
    (h : Stp P n w0 ops T kp ip p E O R (fun E O R => Stp P n w0 ops T kq iq q E O R K)) : Stp P n w0 ops T kq iq q E O R (fun E O R => Stp P n w0 ops T kp ip p E O R K) := by
  simp only [swapOk, Bool.and_eq_true, Bool.or_eq_true, beq_iff_eq, bne_iff_ne, ne_eq] at hs
  obtain ⟨⟨hs1, hs2⟩, hs3⟩ := hs
  have d1 : ∀ d, p.dst = some d → (q.looksAt ops).contains d = false := fun d hd => by rw [hd] at hs1; simpa using (Bool.and_eq_true_iff.1 hs1).1
  have d2 : ∀ d, p.dst = some d → q.dst ≠ some d := fun d hd => by rw [hd] at hs1; simpa using (Bool.and_eq_true_iff.1 hs1).2
  have d3 : ∀ d, q.dst = some d → (p.looksAt ops).contains d = false := fun d hd => by rw [hd] at hs2; simpa using hs2
  have hid : ∀ (O : List Ent) (F : List Ent) (w : World), Hp w0 (F ++ O) w → Hp w0 (F ++ O) w := fun _ _ _ h => h
  have hp4 : ¬ kp = 4 := by
    rcases hs3 with (⟨h1, _⟩ | ⟨h1, _⟩) | ⟨_, h2⟩
    · rw [h1]; decide
    · rw [h1]; decide
    · exact h2
  by_cases hq : kq = 2
  · subst hq
    simp only [Stp, if_true, if_neg hp4] at h ⊢
    split at h
    · rename_i hp
      have h0 := (h.2.2.2 0)
      refine ⟨h0.1, h0.2.1, h0.2.2.1.weaken (fun x hx => (opd_put d1 _ x hx).symm), fun b => ?_⟩
      rw [if_pos hp]
      refine ⟨h.1, h.2.1, h.2.2.1.weaken (fun x hx => opd_put d3 _ x hx), fun c => ?_⟩
      have h3 := (h.2.2.2 c).2.2.2 b
      refine hK _ _ _ _ _ (fun t => (put_swap d2 _ _ E t).symm) (fun F w hw => ?_) h3
      have := swap_hp (N := [(T.get ip).2 c]) (M := [(T.get iq).2 b]) (O := O) F w (by simpa using hw)
      simpa using this
    · rename_i hp
      obtain ⟨X, u, S, ⟨x0⟩, h1, h2, h3⟩ := h
      have h0 := h3 x0
      refine ⟨h0.1, h0.2.1, h0.2.2.1.weaken (fun x hx => (opd_put d1 _ x hx).symm), fun b => ?_⟩
      rw [if_neg hp]
      obtain ⟨S', h4, h5⟩ := h1.beside (e := (T.get iq).2 b)
      refine ⟨X, u, S', ⟨x0⟩, (Eff.put d3).2 h4, h2, fun x => ?_⟩
      exact hK _ _ _ _ _ (fun t => (put_swap d2 _ _ E t).symm) (h5 x) ((h3 x).2.2.2 b)
  · have h0 : (kp = 0 ∧ (kq = 0 ∨ kq = 1 ∨ kq = 5)) ∨ (kp = 5 ∧ (kq = 0 ∨ kq = 1 ∨ kq = 3 ∨ kq = 5)) := by
      rcases hs3 with (⟨h1, (h2 | h2) | h2⟩ | ⟨h1, ((h2 | h2) | h2) | h2⟩) | h2
      · exact .inl ⟨h1, .inl h2⟩
      · exact .inl ⟨h1, .inr (.inl h2)⟩
      · exact .inl ⟨h1, .inr (.inr h2)⟩
      · exact .inr ⟨h1, .inl h2⟩
      · exact .inr ⟨h1, .inr (.inl h2)⟩
      · exact .inr ⟨h1, .inr (.inr (.inl h2))⟩
      · exact .inr ⟨h1, .inr (.inr (.inr h2))⟩
      · exact absurd h2.1 hq
    have hp2 : ¬ kp = 2 := by rcases h0 with ⟨h, _⟩ | ⟨h, _⟩ <;> rw [h] <;> decide
    have hq4 : ¬ kq = 4 := by rcases h0 with ⟨_, h | h | h⟩ | ⟨_, h | h | h | h⟩ <;> rw [h] <;> decide
    simp only [Stp, if_neg hq, if_neg hp2, if_neg hp4, if_neg hq4] at h ⊢
    obtain ⟨X, u, S0, hX, h1, h2, h3⟩ := h
    -- the first is quiet, or does not come to its turn
    obtain ⟨u0, hu0, hp⟩ : ∃ u0, (∃ Y v S, Nonempty Y ∧ Eff P w0 ops R kq q (putE E p.dst u0) O Y v S ∧ DOk n q ∧ ∀ y, K (putE (putE E p.dst u0) q.dst (v y)) (S y) R) ∧
        ∀ E' O', (∀ x ∈ p.op.operands, E'.opd x = E.opd x) → (∀ g, Guard ops E p g → Guard ops E' p g) → (kp = 0 → ∀ w, Hp w0 (O' ++ R) w → Hp w0 (O ++ R) w) → Eff P w0 ops R kp p E' O' Unit (fun _ => u0) (fun _ => O') := by
      rcases h0 with ⟨rfl, _⟩ | ⟨rfl, _⟩
      · cases h1 with
        | skip hg => exact ⟨undef, h3 (), fun E' O' _ hg' _ => .skip (hg' _ hg)⟩
        | quiet hg hy => exact ⟨_, h3 (), fun E' O' hE hg' hO => .quiet (hg' _ hg) (hy.weaken hE (hO rfl))⟩
      · cases h1 with
        | skip hg => exact ⟨undef, h3 (), fun E' O' _ hg' _ => .skip (hg' _ hg)⟩
        | quietR hg hy => exact ⟨_, h3 (), fun E' O' hE hg' _ => .quietR (hg' _ hg) (hy.weaken hE fun _ h => h)⟩
    obtain ⟨Y, v, S, g0, g1, g2, g3⟩ := hu0
    have g1' := (Eff.put d1).1 g1
    refine ⟨Y, v, S, g0, g1', g2, fun y => ?_⟩
    have hsub : kp = 0 → ∀ w, Hp w0 (S y ++ R) w → Hp w0 (O ++ R) w := fun hk0 => by
      have hk : kq = 0 ∨ kq = 1 ∨ kq = 5 := by
        rcases h0 with ⟨_, h⟩ | ⟨h, _⟩
        · exact h
        · rw [hk0] at h; exact absurd h (by decide)
      cases g1' with
      | skip _ => exact fun _ h => h
      | quiet _ _ => exact fun _ h => h
      | quietR _ _ => exact fun _ h => h
      | make _ _ => exact fun w h => h.sub (by rw [List.append_assoc]; exact List.sublist_append_right _ _)
      | turn _ _ => rcases hk with h | h | h <;> exact absurd h (by decide)
    exact ⟨Unit, fun _ => u0, fun _ => S y, ⟨()⟩, hp _ _ (opd_put d3 _) (fun g hg => (guard_put d3).2 hg) hsub, h2, fun _ => hK _ _ _ _ _ (fun t => (put_swap d2 _ _ E t).symm) (hid _) (g3 y)⟩
/-- Of any two that are walked in this order the second waits for the first, directly, or they may change places. -/
def pairsOk [PhC] (ops : Array Oper) : List (Nat × Kd) → Bool
  | [] => true
  | (i, k) :: π => (π.all fun (j, kj) => match ops[i]?, ops[j]? with
    | some p, some q => Go.Proofs.Ytgeflnjjppgooaa.pairsOk.reach ops j i || swapOk ops k kj p q
    | _, _ => false) && pairsOk ops π
theorem pairsOk_mid [PhC] {i : Nat} {k : Kd} : ∀ (A B : List (Nat × Kd)), pairsOk ops (A ++ (i, k) :: B) = true →
    (∀ j kj, (j, kj) ∈ A → ∃ p q, ops[j]? = some p ∧ ops[i]? = some q ∧ (Go.Proofs.Ytgeflnjjppgooaa.pairsOk.reach ops i j = true ∨ swapOk ops kj k p q = true)) ∧ pairsOk ops (A ++ B) = true
  | [], B, h => by
    simp only [List.nil_append, pairsOk, Bool.and_eq_true] at h
    exact ⟨fun _ _ h => by (cases h), h.2⟩
  | (j, kj) :: A, B, h => by
    simp only [List.cons_append, pairsOk, Bool.and_eq_true, List.all_eq_true] at h ⊢
    obtain ⟨h1, h2⟩ := h
    obtain ⟨g1, g2⟩ := pairsOk_mid A B h2
    refine ⟨fun j' kj' hj => ?_, fun x hx => h1 x ?_, g2⟩
    · rcases List.mem_cons.1 hj with hj | hj
      · cases hj
        have := h1 (i, k) (by simp)
        dsimp only at this
        cases hp : ops[j]? with
        | none => rw [hp] at this; simp at this
        | some p =>
          cases hq : ops[i]? with
          | none => rw [hp, hq] at this; simp at this
          | some q =>
            rw [hp, hq] at this
            exact ⟨p, q, rfl, rfl, by simpa using this⟩
      · exact g1 j' kj' hj
    · rcases List.mem_append.1 hx with hx | hx
      · exact List.mem_append.2 (.inl hx)
      · exact List.mem_append.2 (.inr (List.mem_cons_of_mem _ hx))
theorem SW.front [PhC] {K : Env → List Ent → List Ent → Prop} (hK : Lax3 w0 K) {i : Nat} {k : Kd} {q : Oper} (hq : ops[i]? = some q) : ∀ (A B : List (Nat × Kd)) (E : Env) (O R : List Ent),
    (∀ j kj, (j, kj) ∈ A → ∃ p, ops[j]? = some p ∧ swapOk ops kj k p q = true) → SW P n w0 ops T K (A ++ (i, k) :: B) E O R → SW P n w0 ops T K ((i, k) :: (A ++ B)) E O R
  | [], _, _, _, _, _, h => h
  | (j, kj) :: A, B, E, O, R, hs, h => by
    obtain ⟨p, hp, h⟩ := h
    obtain ⟨p', hp', hsw⟩ := hs j kj List.mem_cons_self
    obtain rfl : p = p' := Option.some.inj (hp.symm.trans hp')
    have h2 : Stp P n w0 ops T kj j p E O R (fun E O R => Stp P n w0 ops T k i q E O R (SW P n w0 ops T K (A ++ B))) := by
      have ih := fun E O R => SW.front hK hq A B E O R (fun j kj hj => hs j kj (List.mem_cons_of_mem _ hj))
      have key : ∀ E O R, SW P n w0 ops T K (A ++ (i, k) :: B) E O R → Stp P n w0 ops T k i q E O R (SW P n w0 ops T K (A ++ B)) := fun E O R h => by
        obtain ⟨q', hq', h'⟩ := ih E O R h
        obtain rfl : q = q' := Option.some.inj (hq.symm.trans hq')
        exact h'
      simp only [Stp] at h ⊢
      split at h
      · rename_i hk; rw [if_pos hk]; exact ⟨h.1, h.2.1, h.2.2.1, fun b => key _ _ _ (h.2.2.2 b)⟩
      · rename_i hk; rw [if_neg hk]
        split at h
        · rename_i hk4; rw [if_pos hk4]
          obtain ⟨X, u, R, h0, h1, h2, h3, h4⟩ := h
          exact ⟨X, u, R, h0, h1, h2, h3, fun x => key _ _ _ (h4 x)⟩
        · rename_i hk4; rw [if_neg hk4]
          obtain ⟨X, u, R, h0, h1, h2, h3⟩ := h
          exact ⟨X, u, R, h0, h1, h2, fun x => key _ _ _ (h3 x)⟩
    have h3 := Stp.swap (SW.lax hK (A ++ B)) hsw h2
    refine ⟨q, hq, ?_⟩
    simp only [Stp] at h3 ⊢
    split at h3
    · rename_i hk; rw [if_pos hk]; exact ⟨h3.1, h3.2.1, h3.2.2.1, fun b => ⟨p, hp, h3.2.2.2 b⟩⟩
    · rename_i hk; rw [if_neg hk]
      split at h3
      · rename_i hk4; rw [if_pos hk4]
        obtain ⟨X, u, R, h0, h1, h2, h3, h4⟩ := h3
        exact ⟨X, u, R, h0, h1, h2, h3, fun x => ⟨p, hp, h4 x⟩⟩
      · rename_i hk4; rw [if_neg hk4]
        obtain ⟨X, u, R, h0, h1, h2, h4⟩ := h3
        exact ⟨X, u, R, h0, h1, h2, fun x => ⟨p, hp, h4 x⟩⟩
theorem Stp.wpOp [PhC] {k : Kd} {o : Oper} {i : Nat} {Q : Exit → Act → World → Prop} {K : Env → List Ent → List Ent → Prop} {S : Act → World → Prop} (ho : ops[i]? = some o) (h : Stp P n w0 ops T k i o E O R K) (hR : ∀ E' O' R', K E' O' R' → VX n w0 (O' ++ R') E' S) {a : Act} {w : World} (ha : Models n E a) (hw : Hp w0 (O ++ R) w) : wqOp P ops Q i S a w := by
  unfold wqOp
  simp only [ho]
  simp only [Stp] at h
  split at h
  · obtain ⟨hg, hd, hA, h⟩ := h
    rw [if_pos (by simp [Region.wanted, hg])]
    refine .inl ?_
    unfold OperWq
    refine (hA a.eval w (ha.ev _)).upon fun v w' ⟨b, h1, h2, h3⟩ => ?_
    exact hR _ _ _ (h b) _ _ (models_put ha hd h1) (hw.new h2 h3)
  split at h
  · obtain ⟨X, u, R', _, hg, hy, hd, h3⟩ := h
    rw [if_pos (hg.wanted ha)]
    refine .inl ?_
    unfold OperWq
    refine (hy a.eval w [] (ha.ev _) (by simpa using hw)).upon fun v w' ⟨x, h1, h2⟩ => ?_
    exact hR _ _ _ (h3 x) _ _ (models_put ha hd h1) (by simpa using h2)
  · obtain ⟨X, u, R', _, h1, hd, h3⟩ := h
    cases h1 with
    | skip hg =>
      rw [if_neg (by rw [hg.wanted ha]; decide)]
      exact hR _ _ _ (h3 ()) _ _ (models_put ha hd (by simp [undef, cn])) hw
    | quiet hg hy =>
      rw [if_pos (hg.wanted ha)]
      refine .inl ?_
      unfold OperWq
      refine (hy a.eval w (ha.ev _) hw).upon fun v w' ⟨h1, h2⟩ => ?_
      exact hR _ _ _ (h3 ()) _ _ (models_put ha hd h1) (hw.ext h2)
    | quietR hg hy =>
      rw [if_pos (hg.wanted ha)]
      refine .inl ?_
      unfold OperWq
      refine (hy a.eval w (ha.ev _) (hw.sub (List.sublist_append_right _ _))).upon fun v w' ⟨h1, h2⟩ => ?_
      exact hR _ _ _ (h3 ()) _ _ (models_put ha hd h1) (hw.ext h2)
    | make hg hy =>
      rw [if_pos (hg.wanted ha)]
      refine .inl ?_
      unfold OperWq
      refine (hy a.eval w (ha.ev _) hw).upon fun v w' ⟨x, h1, h2, h4, h5⟩ => ?_
      exact hR _ _ _ (h3 x) _ _ (models_put ha hd h1) (by rw [List.append_assoc]; exact hw.news h2 h4 h5)
    | turn hg hy =>
      rw [if_pos (hg.wanted ha)]
      refine .inl ?_
      unfold OperWq
      refine (hy a.eval w [] (ha.ev _) (by simpa using hw)).upon fun v w' ⟨x, h1, h2⟩ => ?_
      exact hR _ _ _ (h3 x) _ _ (models_put ha hd h1) (by simpa using h2)
theorem any_of_walk [PhC] {Q : Exit → Act → World → Prop} {K : Env → List Ent → List Ent → Prop} (hK : Lax3 w0 K) (hQ : ∀ E O R, K E O R → VX n w0 (O ++ R) E (Q .normal)) (hback : backOk ops = true) :
    ∀ (fuel : Nat) (π : List (Nat × Kd)) (listed : Array Bool) (E : Env) (O R : List Ent) (a : Act) (w : World), π.length ≤ fuel → listed.size = ops.size → (∀ j, j < ops.size → (listed.getD j true = false ↔ ∃ k, (j, k) ∈ π)) → (π.map (·.1)).Nodup →
      (∀ j o, ops[j]? = some o → listed.getD j false = true → ∀ e ∈ o.after, Region.binds .any e = true → listed.getD e.on false = true) → pairsOk ops π = true → SW P n w0 ops T K π E O R → Models n E a → Hp w0 (O ++ R) w → wqAny P .any ops Q fuel listed a w := by
  have hnone : ∀ (π : List (Nat × Kd)) (listed : Array Bool) (E : Env) (O R : List Ent) (a : Act) (w : World), listed.size = ops.size → (∀ j, j < ops.size → (listed.getD j true = false ↔ ∃ k, (j, k) ∈ π)) → Region.ready .any ops listed = [] → SW P n w0 ops T K π E O R → (∀ j k, (j, k) ∈ π → j < ops.size) → Models n E a → Hp w0 (O ++ R) w → Q .normal a w := by
    intro π listed E O R a w hsz hl hr hS hlt ha hw
    have hnil : π = [] := by
      apply Classical.byContradiction
      intro hne
      -- the least index that is not listed could come up
      have hex : ∃ j, j < ops.size ∧ listed.getD j true = false := by
        cases π with
        | nil => exact absurd rfl hne
        | cons x π => obtain ⟨j, k⟩ := x; exact ⟨j, hlt j k List.mem_cons_self, (hl j (hlt j k List.mem_cons_self)).2 ⟨k, List.mem_cons_self⟩⟩
      have hmin : ∀ m, (∃ j, j ≤ m ∧ j < ops.size ∧ listed.getD j true = false) → ∃ j, j < ops.size ∧ listed.getD j true = false ∧ ∀ i, i < j → listed.getD i true = true := by
        intro m
        induction m with
        | zero => rintro ⟨j, hj, h1, h2⟩; exact ⟨j, h1, h2, fun i hi => by omega⟩
        | succ m ih =>
          rintro ⟨j, hj, h1, h2⟩
          by_cases h : ∃ j, j ≤ m ∧ j < ops.size ∧ listed.getD j true = false
          · exact ih h
          · refine ⟨j, h1, h2, fun i hi => ?_⟩
            cases hi' : listed.getD i true with
            | true => rfl
            | false => exact absurd ⟨i, by omega, by omega, hi'⟩ h
      obtain ⟨j, hj⟩ := hex
      obtain ⟨j, h1, h2, h3⟩ := hmin j ⟨j, Nat.le_refl _, hj⟩
      have hmem : j ∈ Region.ready .any ops listed := by
        refine mem_ready.2 ⟨h2, ops[j], Array.getElem?_eq_getElem h1, fun e he hb => ?_⟩
        have hb' := List.all_eq_true.1 hback j (List.mem_range.2 h1)
        rw [Array.getElem?_eq_getElem h1] at hb'
        have hlt' := Array.all_eq_true'.1 hb' e he
        simp only [hb, Bool.not_true, Bool.false_or, decide_eq_true_eq] at hlt'
        have := h3 e.on hlt'
        have hs : e.on < listed.size := by omega
        simpa [hs] using this
      rw [hr] at hmem
      cases hmem
    subst hnil
    exact hQ E O R hS a w ha hw
  intro fuel
  induction fuel with
  | zero =>
    intro π listed E O R a w hf hsz hl _ _ _ hS ha hw
    have hnil : π = [] := List.eq_nil_of_length_eq_zero (by omega)
    subst hnil
    refine ⟨?_, hQ E O R hS a w ha hw⟩
    apply List.eq_nil_iff_forall_not_mem.2
    intro i hi
    obtain ⟨h1, o, h2, _⟩ := mem_ready.1 hi
    obtain ⟨k, hk⟩ := (hl i (Array.getElem?_eq_some_iff.1 h2).1).1 h1
    cases hk
  | succ fuel ih =>
    intro π listed E O R a w hf hsz hl hnd hcl hp hS ha hw
    refine ⟨fun hr => ?_, fun i hi => ?_⟩
    · -- nothing may come up
      refine hnone π listed E O R a w hsz hl hr hS (fun j k hj => ?_) ha hw
      -- an index of π is one of the region's
      have : ∀ (π : List (Nat × Kd)), pairsOk ops π = true → 2 ≤ π.length → ∀ j k, (j, k) ∈ π → j < ops.size := by
        intro π hp h2 j k hj
        obtain ⟨A, B, rfl⟩ := List.append_of_mem hj
        cases A with
        | nil =>
          cases B with
          | nil => simp at h2
          | cons y B =>
            simp only [List.nil_append, pairsOk, Bool.and_eq_true, List.all_eq_true] at hp
            have := hp.1 y List.mem_cons_self
            obtain ⟨y1, y2⟩ := y
            dsimp only at this
            cases hj' : ops[j]? with
            | none => rw [hj'] at this; simp at this
            | some o => exact (Array.getElem?_eq_some_iff.1 hj').1
        | cons x A =>
          obtain ⟨x1, x2⟩ := x
          obtain ⟨g, _⟩ := pairsOk_mid ((x1, x2) :: A) B hp
          obtain ⟨p, q, _, hq, _⟩ := g x1 x2 List.mem_cons_self
          exact (Array.getElem?_eq_some_iff.1 hq).1
      by_cases h2 : 2 ≤ π.length
      · exact this π hp h2 j k hj
      · cases π with
        | nil => cases hj
        | cons x π =>
          have : π = [] := List.eq_nil_of_length_eq_zero (by simp only [List.length_cons] at h2; omega)
          subst this
          simp only [List.mem_singleton] at hj
          subst hj
          obtain ⟨o, ho, _⟩ := hS
          exact (Array.getElem?_eq_some_iff.1 ho).1
    · obtain ⟨h1, o, h2, h3⟩ := mem_ready.1 hi
      have hlt := (Array.getElem?_eq_some_iff.1 h2).1
      obtain ⟨k, hk⟩ := (hl i hlt).1 h1
      obtain ⟨A, B, rfl⟩ := List.append_of_mem hk
      obtain ⟨g1, g2⟩ := pairsOk_mid A B hp
      have hnot : ∀ j kj, (j, kj) ∈ A → listed.getD j false = false := fun j kj hj => by
        obtain ⟨p, q, hp', _⟩ := g1 j kj hj
        have := (hl j (Array.getElem?_eq_some_iff.1 hp').1).2 ⟨kj, List.mem_append.2 (.inl hj)⟩
        exact getDb this
      have hsw : ∀ j kj, (j, kj) ∈ A → ∃ p, ops[j]? = some p ∧ swapOk ops kj k p o = true := fun j kj hj => by
        obtain ⟨p, q, hp', hq', h⟩ := g1 j kj hj
        obtain rfl : o = q := Option.some.inj (h2.symm.trans hq')
        rcases h with h | h
        · have := reach_listed hcl ops.size [i] j (fun j' hj' o' ho' e he hb => by
            simp only [List.mem_singleton] at hj'
            subst hj'
            obtain rfl : o = o' := Option.some.inj (h2.symm.trans ho')
            exact h3 e he hb) h
          rw [hnot j kj hj] at this
          cases this
        · exact ⟨p, hp', h⟩
      have hfront := SW.front hK h2 A B E O R hsw hS
      obtain ⟨o', ho', hst⟩ := hfront
      obtain rfl : o = o' := Option.some.inj (h2.symm.trans ho')
      have hi' : i < listed.size := by omega
      intro w1 hx
      refine Stp.wpOp (ops := ops) h2 hst (fun E' O' R' hS' a' w' ha' hw' => ?_) ha (hw.ext hx)
      refine ih (A ++ B) _ E' O' R' a' w' (by simp only [List.length_append, List.length_cons] at hf ⊢; omega) (by simpa using hsz) (fun j hj => ?_) ?_ (fun j oj hoj hlj e he hb => ?_) g2 hS' ha' hw'
      · rw [getD_set hi']
        have hndi : ∀ k', (i, k') ∉ A ++ B := by
          intro k' hk'
          simp only [List.map_append, List.map_cons] at hnd
          rw [List.nodup_append] at hnd
          obtain ⟨n1, n2, n3⟩ := hnd
          rcases List.mem_append.1 hk' with hk' | hk'
          · exact n3 i (List.mem_map_of_mem (f := (·.1)) hk') i List.mem_cons_self rfl
          · exact (List.nodup_cons.1 n2).1 (List.mem_map_of_mem (f := (·.1)) hk')
        by_cases hij : i = j
        · subst hij
          rw [if_pos rfl]
          exact ⟨fun h => by (cases h), fun ⟨k', hk'⟩ => absurd hk' (hndi k')⟩
        · rw [if_neg hij, hl j hj]
          constructor
          · rintro ⟨k', hk'⟩
            refine ⟨k', ?_⟩
            rcases List.mem_append.1 hk' with hk' | hk'
            · exact List.mem_append.2 (.inl hk')
            · rcases List.mem_cons.1 hk' with hk' | hk'
              · cases hk'; exact absurd rfl hij
              · exact List.mem_append.2 (.inr hk')
          · rintro ⟨k', hk'⟩
            refine ⟨k', ?_⟩
            rcases List.mem_append.1 hk' with hk' | hk'
            · exact List.mem_append.2 (.inl hk')
            · exact List.mem_append.2 (.inr (List.mem_cons_of_mem _ hk'))
      · simp only [List.map_append, List.map_cons] at hnd ⊢
        exact hnd.sublist (List.Sublist.append_left (List.sublist_cons_self _ _) _)
      · rw [getD_set hi'] at hlj ⊢
        split at hlj
        · rename_i hij
          subst hij
          obtain rfl : o = oj := Option.some.inj (h2.symm.trans hoj)
          rw [h3 e he hb]
          split <;> rfl
        · rw [hcl j oj hoj hlj e he hb]
          split <;> rfl
/-- **A region that draws its order, walked in the order π: S turns, R is only read.** -/
theorem V.drawR [PhC] {id : Nat} {l : List Oper} {Q : Exit → Act → World → Prop} (π : List (Nat × Kd)) (T : Tab) (S R : List Ent) (hm : P.follows .mixedOrders = true) (hok : (permOk l.length π && pairsOk l.toArray π && backOk l.toArray) = true) (hO : ∀ w, Hp w0 O w → Hp w0 (S ++ R) w)
    (h : SW P n w0 l.toArray T (fun E S R => VE n w0 (S ++ R) E Q .normal) π E S R) (hnm : (l.all fun o => frB P o.op) = true := by kernel_rfl) : V P n w0 O E (.region id l.toArray true) Q := by
  intro a w ha hw
  simp only [Bool.and_eq_true] at hok
  obtain ⟨⟨h1, h2⟩, h3⟩ := hok
  obtain ⟨n1, n2⟩ := permOk_nodup h1
  refine wq_region_any (fr_all hnm) hm fun w1 hx => ?_
  have hlen : π.length = l.toArray.size := by
    simp only [permOk, Bool.and_eq_true, decide_eq_true_eq] at h1
    simpa using h1.1.2
  refine any_of_walk (K := fun E S R => VE n w0 (S ++ R) E Q .normal) (fun E E' O O' R hE hO h a w ha hw => h a w (ha.mono fun t u ht => by rw [hE]; exact ht) (hp_nil (frame hO) w hw)) (fun _ _ _ h => h) h3 _ π _ E S R a _ (by omega) (by simp) (fun j hj => ?_) n1 (fun j o _ hj => ?_) h2 h ha ((hO _ hw).ext hx)
  · simp only [List.size_toArray] at hj
    exact ⟨fun _ => n2 j hj, fun _ => by simp [hj]⟩
  · rw [getD_replicate_false'] at hj
    cases hj
where
  getD_replicate_false' {m j : Nat} : (Array.replicate m false).getD j false = false := by
    rcases Nat.lt_or_ge j m with h | h
    · simp [h]
    · simp [h]
section
variable {o : Oper} {i d : Nat} {π : List (Nat × Kd)} {K : Env → List Ent → List Ent → Prop}
theorem SW.p [PhC] {u : Value} (ho : ops[i]? = some o) (hg : Wants ops E o) (hd : o.dst = some d) (hdn : d < n) (hy : YQ P w0 R E o u) (h : SW P n w0 ops T K π ((d, u) :: E) O R) : SW P n w0 ops T K ((i, 5) :: π) E O R :=
  ⟨o, ho, by rw [Stp, if_neg (by decide), if_neg (by decide)]; exact ⟨_, _, _, ⟨()⟩, .quietR hg.guard hy, dok hd hdn, fun _ => by rw [hd]; exact h⟩⟩
theorem SW.r [PhC] {u : Value} (ho : ops[i]? = some o) (hg : Wants ops E o) (hd : o.dst = some d) (hdn : d < n) (hy : YR P E o u) (h : SW P n w0 ops T K π ((d, u) :: E) O R) : SW P n w0 ops T K ((i, 5) :: π) E O R := SW.p ho hg hd hdn hy.q h
theorem SW.new [PhC] {X : Type} [hX : Nonempty X] {u : X → Value} {N : X → List Ent} (ho : ops[i]? = some o) (hg : Wants ops E o) (hd : o.dst = some d) (hdn : d < n) (hy : YN P w0 (O ++ R) E o u N) (h : ∀ x, SW P n w0 ops T K π ((d, u x) :: E) (N x ++ O) R) : SW P n w0 ops T K ((i, 1) :: π) E O R :=
  ⟨o, ho, by rw [Stp, if_neg (by decide), if_neg (by decide)]; exact ⟨_, _, _, hX, .make hg.guard hy, dok hd hdn, fun x => by rw [hd]; exact h x⟩⟩
theorem SW.new1 [PhC] {X : Type} [Nonempty X] {u : X → Value} {N : X → Ent} (ho : ops[i]? = some o) (hg : Wants ops E o) (hd : o.dst = some d) (hdn : d < n) (hy : YN P w0 (O ++ R) E o u (fun x => [N x])) (h : ∀ x, SW P n w0 ops T K π ((d, u x) :: E) (N x :: O) R) : SW P n w0 ops T K ((i, 1) :: π) E O R := SW.new ho hg hd hdn hy h
theorem SW.a [PhC] {u : Nat → Value} {e : Nat → Ent} (ho : ops[i]? = some o) (hg : o.guard = none) (hd : o.dst = some d) (hdn : d < n) (hT : T.get i = (u, e)) (hy : ∀ w0, YN P w0 [] E o u (fun b => [e b])) (h : ∀ b, SW P n w0 ops T K π ((d, u b) :: E) (e b :: O) R) : SW P n w0 ops T K ((i, 2) :: π) E O R :=
  ⟨o, ho, by
    rw [Stp, if_pos rfl, hT]
    exact ⟨hg, dok hd hdn, YA.of hy, fun b => by rw [hd]; exact h b⟩⟩
theorem SW.c [PhC] {X : Type} [hX : Nonempty X] {u : X → Value} {O' : X → List Ent} (ho : ops[i]? = some o) (hg : Wants ops E o) (hd : o.dst = some d) (hdn : d < n) (hy : YC P w0 (O ++ R) E o u (fun x => O' x ++ R)) (h : ∀ x, SW P n w0 ops T K π ((d, u x) :: E) (O' x) R) : SW P n w0 ops T K ((i, 3) :: π) E O R :=
  ⟨o, ho, by rw [Stp, if_neg (by decide), if_neg (by decide)]; exact ⟨_, _, _, hX, .turn hg.guard hy, dok hd hdn, fun x => by rw [hd]; exact h x⟩⟩
theorem SW.s [PhC] {X : Type} [hX : Nonempty X] {u : X → Value} {O' : X → List Ent} (ho : ops[i]? = some o) (hg : Wants ops E o) (hd : o.dst = none) (hy : YC P w0 (O ++ R) E o u (fun x => O' x ++ R)) (h : ∀ x, SW P n w0 ops T K π E (O' x) R) : SW P n w0 ops T K ((i, 3) :: π) E O R :=
  ⟨o, ho, by rw [Stp, if_neg (by decide), if_neg (by decide)]; exact ⟨_, _, _, hX, .turn hg.guard hy, (fun d' h' => by rw [hd] at h'; cases h'), fun x => by rw [hd]; exact h x⟩⟩
theorem eqO [PhC] {O' : List Ent} {S : Act → World → Prop} (h : O = O') (hk : VX n w0 O' E S) : VX n w0 O E S := h ▸ hk
theorem UpdF.app [PhC] {X : Type} {S R : List Ent} {e : Ent} {f : X → Ent} {S' : X → List Ent} (h : UpdF S e f S') : UpdF (S ++ R) e f (fun x => S' x ++ R) := by
  induction h with
  | here => exact UpdF.here
  | there _ ih => exact UpdF.there ih
  | thereS _ ih =>
    rename_i S1 O1 _ _ _
    have := UpdF.thereS (S := S1) ih
    simpa only [List.append_assoc] using this
theorem SW.t [PhC] {X : Type} [hX : Nonempty X] {u : X → Value} {O' : X → List Ent} (ho : ops[i]? = some o) (hg : Wants ops E o) (hd : o.dst = none) (hy : YC P w0 (O ++ R) E o u O') (h : ∀ x, SW P n w0 ops T K π E (O' x) []) : SW P n w0 ops T K ((i, 4) :: π) E O R :=
  ⟨o, ho, by rw [Stp, if_neg (by decide), if_pos rfl]; exact ⟨_, _, _, hX, hg.guard, hy, (fun d' h' => by rw [hd] at h'; cases h'), fun x => by rw [hd]; exact h x⟩⟩
theorem SW.done [PhC] (h : K E O R) : SW P n w0 ops T K [] E O R := h
end
end
end Dr
theorem Hp.pickS [PhC] {w0 w : World} {O M F : List Ent} (hw : Hp w0 O w) (h : Pick O M F) : Hp w0 (M ++ F) w := (hw.perm' h.perm).perm' List.perm_append_comm
end Go.Proofs.Ytgeflnjjppgooaa.Q
