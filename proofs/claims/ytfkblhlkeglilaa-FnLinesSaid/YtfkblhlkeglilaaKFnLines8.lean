/- Own texts of this claim, merged: WLw, Ol, Om, Ds, WLx. -/
import Derived.KernelRfl
import Derived.Test.YtfkblhlkeglilaaV01
import Derived.Test.YtfkblhlkeglilaaV02
import Derived.Test.YtfkblhlkeglilaaV03
import Derived.Test.YtfkblhlkeglilaaV04
import Derived.Test.YtfkblhlkeglilaaV05
import Derived.Test.YtfkblhlkeglilaaV06
import Derived.Test.YtfkblhlkeglilaaV07
import Derived.Test.YtfkblhlkeglilaaV08
import Derived.Test.YtfkblhlkeglilaaV09
import Derived.Test.YtfkblhlkeglilaaV10
import Derived.Test.YtfkblhlkeglilaaV11
import Derived.Test.YtfkblhlkeglilaaV12
import Derived.Test.YtfkblhlkeglilaaV13
import Derived.Test.YtfkblhlkeglilaaV14
import Derived.Test.YtfkblhlkeglilaaV15
import Derived.Test.YtfkblhlkeglilaaV16
import Derived.Test.YtfkblhlkeglilaaV17
import Derived.Test.YtfkblhlkeglilaaV18
import Derived.Test.YtfkblhlkeglilaaV19
import Derived.Test.YtfkblhlkeglilaaKFnLines7
namespace Go.Proofs.Ytfkblhlkeglilaa
open Go.RowKit
set_option linter.unusedVariables false
set_option linter.unusedSimpArgs false
set_option maxRecDepth 20000
theorem sz5_Lw : (Try.prog.info? 5).map (·.size) = some 1 := by kernel_rfl
theorem fb5_Lw : flatB Try.prog 5 = true := by kernel_rfl
theorem zero32_Lw : (Try.prog.info? 32).bind (·.zero) = some (Value.agg #[Value.float .f32 0, Value.float .f32 0, Value.float .f32 0]) := by kernel_rfl
theorem elt25_Lw : Elt Try.prog 25 [Value.float .f32 0] 4 := Elt.mk' (by kernel_rfl) (by decide)
theorem sz25_Lw : (Try.prog.info? 25).map (·.size) = some 1 := by kernel_rfl
theorem mixed_Lw : Try.prog.follows .mixedOrders = true := by kernel_rfl
theorem fb25_Lw : flatB Try.prog 25 = true := by kernel_rfl
theorem lay32_Lw : Lay Try.prog 32 [Value.float .f32 0, Value.float .f32 0, Value.float .f32 0] [(0, 1), (1, 1), (2, 1)] := Lay.mk' (by kernel_rfl) (by kernel_rfl)
theorem sz32_Lw : (Try.prog.info? 32).map (·.size) = some 3 := by kernel_rfl
theorem known20_Lw : Known Try.prog 20 := Known.mk' Try.func20 (by kernel_rfl)
theorem known31_Lw : Known Try.prog 31 := Known.mk' Try.func31 (by kernel_rfl)
theorem known33_Lw : Known Try.prog 33 := Known.mk' Try.func33 (by kernel_rfl)
theorem known32_Lw : Known Try.prog 32 := Known.mk' Try.func32 (by kernel_rfl)
theorem known34_Lw : Known Try.prog 34 := Known.mk' Try.func34 (by kernel_rfl)
theorem known35_Lw : Known Try.prog 35 := Known.mk' Try.func35 (by kernel_rfl)
theorem known36_Lw : Known Try.prog 36 := Known.mk' Try.func36 (by kernel_rfl)
theorem elt32_Lw : Elt Try.prog 32 [Value.float .f32 0, Value.float .f32 0, Value.float .f32 0] 12 := Elt.mk' (by kernel_rfl) (by decide)
attribute [local irreducible] fop fcmp fconv sqrt32 fneg fabs List.getD qw long3 inner3 sub3 llS bdQ bdT bdK thK thT
theorem c_r8LongL {w : World} {a b : Option Addr} {c d n m : Nat} : Pure Try.prog 4 [.slice a n c, .slice b m d] w (.bool (decide (48 < n) || decide (48 < m))) := by
  refine Pure.enter Try.func4 rfl Try.ntmps4 (Nat.le_of_ble_eq_true rfl) ?_
  refine V.seq ?_
  refine V.region ?_
  refine VL.r (.inl rfl) rfl (by decide) (yr_assign (u := .bool false) rfl rfl) ?_
  refine VL.nil ?_
  refine VE.then_wp ?_
  refine V.seq ?_
  refine V.region ?_
  refine VL.r (.inl rfl) rfl (by decide) (yr_move rfl rfl) ?_
  refine VL.r (.inl rfl) rfl (by decide) (yr_len rfl Try.underlying22 rfl) ?_
  refine VL.r (.inl rfl) rfl (by decide) (yr_icmp rfl (.inr (.inr (.inr (.inr (.inl rfl))))) rfl rfl) ?_
  refine VL.r (.inl rfl) rfl (by decide) (yr_move rfl rfl) ?_
  refine VX.split 8 _ rfl (fun h1 => ?_) (fun h1 => ?_)
  · skip
    replace h1 := ic_gtr h1
    refine VL.no rfl rfl rfl rfl rfl (by decide) ?_
    refine VL.no rfl rfl rfl rfl rfl (by decide) ?_
    refine VL.no rfl rfl rfl rfl rfl (by decide) ?_
    refine VL.r (.inl rfl) rfl (by decide) (yr_pick_t (u := .bool true) rfl rfl rfl) ?_
    refine VL.r (.inl rfl) rfl (by decide) (yr_assign rfl rfl) ?_
    refine VL.nil ?_
    refine VE.then_wp ?_
    refine V.ret ?_
    refine ret1 rfl rfl (fun w1 hw => ?_)
    first
      | exact ⟨congrArg Value.bool (by rw [decide_eq_true (show 48 < n by omega)]; rfl), hw.below⟩
      | exact ⟨congrArg Value.bool (by rw [decide_eq_false (show ¬ 48 < n by omega), Bool.false_or]; exact decide_eq_decide.2 (by omega)), hw.below⟩
  replace h1 := ic_gtr' h1
  refine VL.r (.inr ⟨_, _, _, rfl, rfl, rfl⟩) rfl (by decide) (yr_move rfl rfl) ?_
  refine VL.r (.inr ⟨_, _, _, rfl, rfl, rfl⟩) rfl (by decide) (yr_len rfl Try.underlying22 rfl) ?_
  refine VL.r (.inr ⟨_, _, _, rfl, rfl, rfl⟩) rfl (by decide) (yr_icmp rfl (.inr (.inr (.inr (.inr (.inl rfl))))) rfl rfl) ?_
  refine VL.r (.inl rfl) rfl (by decide) (yr_pick_f rfl rfl rfl) ?_
  refine VL.r (.inl rfl) rfl (by decide) (yr_assign rfl rfl) ?_
  refine VL.nil ?_
  refine VE.then_wp ?_
  refine V.ret ?_
  refine ret1 rfl rfl (fun w1 hw => ?_)
  first
    | exact ⟨congrArg Value.bool (by rw [decide_eq_true (show 48 < n by omega)]; rfl), hw.below⟩
    | exact ⟨congrArg Value.bool (by rw [decide_eq_false (show ¬ 48 < n by omega), Bool.false_or]; exact decide_eq_decide.2 (by omega)), hw.below⟩
theorem c_r8AtL {w : World} {a : Option Addr} {c k m : Nat} {bs : List Int} (hA : Cl w a (bl bs)) (hb : Bytes bs) (hl : bs.length ≤ 2000000) (hm : 1 ≤ m) : New Try.prog 7 [.slice a bs.length c, .int .i64 (k : Int), .int .i64 (m : Int)] w (fun x : {x : Nat // x < m} => .int .i64 ((x.1 : Nat) : Int)) (fun _ => []) := by
  refine New.enter Try.func7 rfl Try.ntmps7 (Nat.le_of_ble_eq_true rfl) ?_
  refine V.seq ?_
  refine V.region ?_
  refine VL.r (.inl rfl) rfl (by decide) (yr_assign (u := .int .i64 0) rfl rfl) ?_
  refine VL.nil ?_
  refine VE.then_wp ?_
  refine V.seq ?_
  refine V.seq ?_
  refine V.region ?_
  refine VL.r (.inl rfl) rfl (by decide) (yr_move rfl rfl) ?_
  refine VL.r (.inl rfl) rfl (by decide) (yr_icmp rfl (.inr (.inr (.inr (.inl rfl)))) rfl rfl) ?_
  refine VL.r (.inl rfl) rfl (by decide) (yr_move rfl rfl) ?_
  refine VX.split 9 _ rfl (fun h1 => ?_) (fun h1 => ?_)
  · skip
    replace h1 := ic_leq h1
    refine VL.no rfl rfl rfl rfl rfl (by decide) ?_
    refine VL.no rfl rfl rfl rfl rfl (by decide) ?_
    refine VL.no rfl rfl rfl rfl rfl (by decide) ?_
    refine VL.no rfl rfl rfl rfl rfl (by decide) ?_
    refine VL.r (.inl rfl) rfl (by decide) (yr_pick_t (u := .bool true) rfl rfl rfl) ?_
    refine VL.nil ?_
    refine VE.then_wp ?_
    refine V.condT rfl ?_
    refine V.seq ?_
    refine V.region ?_
    refine VL.r (.inl rfl) rfl (by decide) (yr_assign (u := .int .i64 0) rfl rfl) ?_
    refine VL.nil ?_
    refine VE.then_wp ?_
    refine V.ret ?_
    refine VE.then_ret ?_
    refine ret1 rfl rfl (fun w1 hw => ?_)
    first
      | exact ⟨⟨0, by omega⟩, rfl, hw.below, (fun _ h => by cases h), List.Pairwise.nil⟩
      | exact ⟨⟨(bs.getD k 0).toNat % m, Nat.mod_lt _ (by omega)⟩, rfl, hw.below, (fun _ h => by cases h), List.Pairwise.nil⟩
  replace h1 := ic_leq' h1
  refine VL.r (.inr ⟨_, _, _, rfl, rfl, rfl⟩) rfl (by decide) (yr_move rfl rfl) ?_
  refine VL.r (.inr ⟨_, _, _, rfl, rfl, rfl⟩) rfl (by decide) (yr_move rfl rfl) ?_
  refine VL.r (.inr ⟨_, _, _, rfl, rfl, rfl⟩) rfl (by decide) (yr_len rfl Try.underlying22 rfl) ?_
  refine VL.r (.inr ⟨_, _, _, rfl, rfl, rfl⟩) rfl (by decide) (yr_icmp rfl (.inr (.inr (.inr (.inr (.inr rfl))))) rfl rfl) ?_
  refine VL.r (.inl rfl) rfl (by decide) (yr_pick_f rfl rfl rfl) ?_
  refine VL.nil ?_
  refine VE.then_wp ?_
  refine V.cond rfl (fun h3 => ?_) (fun h3 => ?_)
  · skip
    replace h3 := ic_geq h3
    refine V.seq ?_
    refine V.region ?_
    refine VL.r (.inl rfl) rfl (by decide) (yr_assign (u := .int .i64 0) rfl rfl) ?_
    refine VL.nil ?_
    refine VE.then_wp ?_
    refine V.ret ?_
    refine VE.then_ret ?_
    refine ret1 rfl rfl (fun w1 hw => ?_)
    first
      | exact ⟨⟨0, by omega⟩, rfl, hw.below, (fun _ h => by cases h), List.Pairwise.nil⟩
      | exact ⟨⟨(bs.getD k 0).toNat % m, Nat.mod_lt _ (by omega)⟩, rfl, hw.below, (fun _ h => by cases h), List.Pairwise.nil⟩
  replace h3 := ic_geq' h3
  have hbn := byte_get hb (show k < bs.length by omega)
  refine V.skip ?_
  refine VE.then_wp ?_
  refine V.seq ?_
  refine V.region ?_
  refine VL.r (.inl rfl) rfl (by decide) (yr_move rfl rfl) ?_
  refine VL.r (.inl rfl) rfl (by decide) (yr_move rfl rfl) ?_
  refine VL.q (.inl rfl) rfl (by decide) (yq_idx (k := k) rfl Try.underlying22 sz5_Lw rfl rfl zz0 zz6 (by exact bl_length _) (by omega)) ?_
  refine VL.q (.inl rfl) rfl (by decide) (yq_load (u := .int .u8 (bs.getD k 0)) rfl fb5_Lw rfl zz0 (bl_get (by omega))) ?_
  refine VL.r (.inl rfl) rfl (by decide) (yr_intConv (r := bs.getD k 0) rfl Try.underlying5 Try.underlying2 rfl (wrap_in (by omega))) ?_
  refine VL.r (.inl rfl) rfl (by decide) (yr_move rfl rfl) ?_
  refine VL.r (.inl rfl) rfl (by decide) (yr_remN (bs.getD k 0).toNat m rfl rfl rfl (by rw [Int.toNat_of_nonneg hbn.1]) rfl (by omega)) ?_
  refine VL.r (.inl rfl) rfl (by decide) (yr_assign rfl rfl) ?_
  refine VL.nil ?_
  refine VE.then_wp ?_
  refine V.ret ?_
  refine ret1 rfl rfl (fun w1 hw => ?_)
  first
    | exact ⟨⟨0, by omega⟩, rfl, hw.below, (fun _ h => by cases h), List.Pairwise.nil⟩
    | exact ⟨⟨(bs.getD k 0).toNat % m, Nat.mod_lt _ (by omega)⟩, rfl, hw.below, (fun _ h => by cases h), List.Pairwise.nil⟩
theorem c_r8GapL {w : World} {x y : Nat} (hx : fnan .f64 (fop .sub .f64 x y) = false) (hy : fnan .f64 (fop .sub .f64 y x) = false) : Pure Try.prog 13 [.float .f64 x, .float .f64 y] w (.float .f64 (gap64 x y)) := by
  refine Pure.enter Try.func13 rfl Try.ntmps13 (Nat.le_of_ble_eq_true rfl) ?_
  refine V.seq ?_
  refine V.region ?_
  refine VL.r (.inl rfl) rfl (by decide) (yr_assign (u := .float .f64 0) rfl rfl) ?_
  refine VL.nil ?_
  refine VE.then_wp ?_
  refine V.seq ?_
  refine V.region ?_
  refine VL.r (.inl rfl) rfl (by decide) (yr_move rfl rfl) ?_
  refine VL.r (.inl rfl) rfl (by decide) (yr_move rfl rfl) ?_
  refine VL.r (.inl rfl) rfl (by decide) (yr_float rfl (.inr (.inl rfl)) rfl rfl) ?_
  refine VL.r (.inl rfl) rfl (by decide) (yr_move rfl rfl) ?_
  refine VL.r (.inl rfl) rfl (by decide) (yr_move rfl rfl) ?_
  refine VL.r (.inl rfl) rfl (by decide) (yr_float rfl (.inr (.inl rfl)) rfl rfl) ?_
  refine VL.r (.inl rfl) rfl (by decide) (yr_maxF (k := .f64) (fop .sub .f64 x y) [fop .sub .f64 y x] rfl (.cons rfl (.cons rfl .nil)) (nn2 hx hy)) ?_
  refine VL.r (.inl rfl) rfl (by decide) (yr_assign rfl rfl) ?_
  refine VL.nil ?_
  refine VE.then_wp ?_
  refine V.ret ?_
  refine ret1 rfl rfl (fun w1 hw => ?_)
  exact ⟨by unfold gap64; rfl, hw.below⟩
theorem c_r8VecL {w : World} {a : Option Addr} {c : Nat} {bs : List Int} (hA : Cl w a (bl bs)) (hb : Bytes bs) (hl : bs.length ≤ 2000000) : New Try.prog 6 [.slice a bs.length c, .int .i64 0] w (fun x : {x : Nat × Nat × Nat // x.1 < 17 ∧ x.2.1 < 17 ∧ x.2.2 < 17} => .agg #[.float .f32 (qw x.1.1), .float .f32 (qw x.1.2.1), .float .f32 (qw x.1.2.2)]) (fun _ => []) := by
  refine New.enter Try.func6 rfl Try.ntmps6 (Nat.le_of_ble_eq_true rfl) ?_
  refine V.seq ?_
  refine V.region ?_
  refine VL.new1 (.inl rfl) rfl (by decide) (yn_alloc rfl zero32_Lw rfl) ?_
  intro b4
  refine VL.nil ?_
  refine VE.then_wp ?_
  refine V.seq ?_
  refine V.region ?_
  refine VL.new1 (.inl rfl) rfl (by decide) (yn_lit rfl Try.underlying55 elt25_Lw rfl (by decide) (.cons rfl (.cons rfl (.cons rfl .nil))) (by first | (simp; done) | (simp [cn, cn1, cn0]; done)) rfl rfl rfl) ?_
  intro b7
  refine VL.r (.inl rfl) rfl (by decide) (yr_assign rfl rfl) ?_
  refine VL.nil ?_
  refine VE.then_wp ?_
  refine V.seq ?_
  refine V.seq ?_
  refine V.region ?_
  refine VL.r (.inl rfl) rfl (by decide) (yr_assign (u := .int .i64 0) rfl rfl) ?_
  refine VL.nil ?_
  refine VE.then_wp ?_
  refine V.block ?_
  refine V.loopc (G := Nat) [(0, _), (1, _), (4, _), (5, _)] (fun (k : Nat) => k ≤ 3) (fun (k : Nat) => [⟨some ⟨b7, 0, none⟩, fl (rv bs k), 3, 25⟩, ⟨some ⟨b4, 0, none⟩, [.float .f32 0, .float .f32 0, .float .f32 0], 3, 32⟩]) (fun (k : Nat) => [(6, .int .i64 (k : Int))]) (fun (k : Nat) => 3 - k) 0 (.cons rfl (.cons rfl (.cons rfl (.cons rfl .nil)))) (.cons rfl .nil) ?_ ?_ ?_
  · exact (fun w hw => hw.pick zz8)
  · exact (Nat.zero_le _)
  rintro k hk9
  show V _ _ _ [⟨some ⟨b7, 0, none⟩, fl (rv bs k), 3, 25⟩, ⟨some ⟨b4, 0, none⟩, [.float .f32 0, .float .f32 0, .float .f32 0], 3, 32⟩] ([(6, .int .i64 (k : Int))] ++ [(0, _), (1, _), (4, _), (5, _)]) _ _
  have hk : k ≤ 3 := hk9
  refine V.seq ?_
  refine V.seq ?_
  refine V.region ?_
  refine VL.r (.inl rfl) rfl (by decide) (yr_move rfl rfl) ?_
  refine VL.r (.inl rfl) rfl (by decide) (yr_icmp rfl (.inr (.inr (.inl rfl))) rfl rfl) ?_
  refine VL.nil ?_
  refine VE.then_wp ?_
  refine V.cond rfl (fun h1 => ?_) (fun h1 => ?_)
  · skip
    replace h1 := ic_lss h1
    refine V.skip ?_
    refine VE.then_wp ?_
    refine V.seq ?_
    refine V.block ?_
    refine V.seq ?_
    refine V.region ?_
    refine VL.r (.inl rfl) rfl (by decide) (yr_move rfl rfl) ?_
    refine VL.r (.inl rfl) rfl (by decide) (yr_move rfl rfl) ?_
    refine VL.r (.inl rfl) rfl (by decide) (yr_int rfl rfl rfl (.inl ⟨rfl, wrap_in (by omega)⟩)) ?_
    refine VL.r (.inl rfl) rfl (by decide) (yr_move rfl rfl) ?_
    refine VL.r (.inl rfl) rfl (by decide) (yr_len rfl Try.underlying22 rfl) ?_
    refine VL.r (.inl rfl) rfl (by decide) (yr_icmp rfl (.inr (.inr (.inl rfl))) rfl rfl) ?_
    refine VL.nil ?_
    refine VE.then_wp ?_
    refine V.cond rfl (fun h2 => ?_) (fun h2 => ?_)
    · skip
      replace h2 := ic_lss h2
      have hbn := byte_get hb (show k < bs.length by omega)
      refine V.region ?_
      refine VL.r (.inl rfl) rfl (by decide) (yr_move rfl rfl) ?_
      refine VL.r (.inl rfl) rfl (by decide) (yr_move rfl rfl) ?_
      refine VL.r (.inl rfl) rfl (by decide) (yr_move rfl rfl) ?_
      refine VL.r (.inl rfl) rfl (by decide) (yr_move rfl rfl) ?_
      refine VL.r (.inl rfl) rfl (by decide) (yr_move rfl rfl) ?_
      refine VL.r (.inl rfl) rfl (by decide) (yr_int rfl rfl rfl (.inl ⟨rfl, wrap_in (by omega)⟩)) ?_
      refine VL.q (.inl rfl) rfl (by decide) (yq_idx (k := (0 + k)) rfl Try.underlying22 sz5_Lw rfl rfl zz0 zz6 (by first | exact bl_length _ | (rw [fl_length]; exact (rv_ok bs _).1)) (by first | omega | (rw [(rv_ok bs _).1]; omega))) ?_
      refine VL.q (.inl rfl) rfl (by decide) (yq_load (u := .int .u8 (bs.getD k 0)) rfl fb5_Lw rfl zz0 (by rw [Nat.zero_add]; exact bl_get (by omega))) ?_
      refine VL.r (.inl rfl) rfl (by decide) (yr_intConv (r := bs.getD k 0) rfl Try.underlying5 Try.underlying2 rfl (wrap_in (by omega))) ?_
      refine VL.r (.inl rfl) rfl (by decide) (yr_remN (bs.getD k 0).toNat 17 rfl rfl rfl (by rw [Int.toNat_of_nonneg hbn.1]) rfl (by omega)) ?_
      refine VL.r (.inl rfl) rfl (by decide) (yr_int (r := (((bs.getD k 0).toNat % 17 : Nat) : Int) - 8) rfl rfl rfl (.inr (.inl ⟨rfl, wrap_in (by (try dsimp only); omega)⟩))) ?_
      refine VL.r (.inl rfl) rfl (by decide) (yr_ofInt rfl Try.underlying2 Try.underlying25 rfl) ?_
      refine VL.r (.inl rfl) rfl (by decide) (show YR _ _ _ (.float .f32 (qw ((bs.getD k 0).toNat % 17))) from (by unfold qw; exact yr_float rfl (.inr (.inr (.inr rfl))) rfl rfl)) ?_
      refine VL.q (.inl rfl) rfl (by decide) (yq_idx (k := k) rfl Try.underlying55 sz25_Lw rfl rfl zz0 zz6 (by first | exact bl_length _ | (rw [fl_length]; exact (rv_ok bs _).1)) (by first | omega | (rw [(rv_ok bs _).1]; omega))) ?_
      refine VL.s (.inl rfl) rfl (yc_store rfl sz25_Lw rfl rfl zz3 (.inl ⟨rfl, rfl⟩) rfl (by rw [fl_length, (rv_ok bs k).1]; omega) (by decide) (fl_set _ _ _)) ?_
      rintro ⟨⟩
      refine VL.nil ?_
      refine VE.block_normal ?_
      refine VE.then_wp ?_
      refine V.region ?_
      refine VL.r (.inl rfl) rfl (by decide) (yr_move rfl rfl) ?_
      refine VL.r (.inl rfl) rfl (by decide) (yr_int rfl rfl rfl (.inl ⟨rfl, wrap_in (by omega)⟩)) ?_
      refine VL.r (.inl rfl) rfl (by decide) (yr_assign rfl rfl) ?_
      refine VL.nil ?_
      refine VE.round (k + 1) ?_ ?_ ?_ ?_ ?_
      · exact (.cons rfl .nil)
      · exact (.cons rfl (.cons rfl (.cons rfl (.cons rfl .nil))))
      · exact (fun w hw => by (try dsimp only); first | (rw [rv_t (by omega)]; exact hw.pick zz8) | (rw [rv_f (by omega)]; exact hw.pick zz8))
      · (try dsimp only); omega
      · (try dsimp only); omega
    replace h2 := ic_lss' h2
    refine V.skip ?_
    refine VE.block_normal ?_
    refine VE.then_wp ?_
    refine V.region ?_
    refine VL.r (.inl rfl) rfl (by decide) (yr_move rfl rfl) ?_
    refine VL.r (.inl rfl) rfl (by decide) (yr_int rfl rfl rfl (.inl ⟨rfl, wrap_in (by omega)⟩)) ?_
    refine VL.r (.inl rfl) rfl (by decide) (yr_assign rfl rfl) ?_
    refine VL.nil ?_
    refine VE.round (k + 1) ?_ ?_ ?_ ?_ ?_
    · exact (.cons rfl .nil)
    · exact (.cons rfl (.cons rfl (.cons rfl (.cons rfl .nil))))
    · exact (fun w hw => by (try dsimp only); first | (rw [rv_t (by omega)]; exact hw.pick zz8) | (rw [rv_f (by omega)]; exact hw.pick zz8))
    · (try dsimp only); omega
    · (try dsimp only); omega
  replace h1 := ic_lss' h1
  refine V.exit ?_
  refine VE.then_exit ?_
  refine VE.then_exit ?_
  refine VE.block_here ?_
  refine VE.then_wp ?_
  refine V.seq ?_
  refine V.draw [(0, 0), (1, 0), (2, 0), (3, 0), (4, 0), (5, 0), (6, 0), (7, 0), (8, 0), (9, 0), (10, 3)] mixed_Lw (by kernel_rfl) (by intro j o hj; simp at hj) ?_
  refine SW.r rfl (.inl rfl) rfl (by decide) (yr_move rfl rfl) ?_
  refine SW.q rfl (.inl rfl) rfl (by decide) (yq_idx (k := 0) rfl Try.underlying55 sz25_Lw rfl rfl zz0 zz6 (by first | exact bl_length _ | (rw [fl_length]; exact (rv_ok bs _).1)) (by first | omega | (rw [(rv_ok bs _).1]; omega))) ?_
  refine SW.q rfl (.inl rfl) rfl (by decide) (yq_loadF rfl fb25_Lw rfl zz0 (by first | omega | (rw [(rv_ok bs _).1]; omega))) ?_
  refine SW.r rfl (.inl rfl) rfl (by decide) (yr_move rfl rfl) ?_
  refine SW.q rfl (.inl rfl) rfl (by decide) (yq_idx (k := 1) rfl Try.underlying55 sz25_Lw rfl rfl zz0 zz6 (by first | exact bl_length _ | (rw [fl_length]; exact (rv_ok bs _).1)) (by first | omega | (rw [(rv_ok bs _).1]; omega))) ?_
  refine SW.q rfl (.inl rfl) rfl (by decide) (yq_loadF rfl fb25_Lw rfl zz0 (by first | omega | (rw [(rv_ok bs _).1]; omega))) ?_
  refine SW.r rfl (.inl rfl) rfl (by decide) (yr_move rfl rfl) ?_
  refine SW.q rfl (.inl rfl) rfl (by decide) (yq_idx (k := 2) rfl Try.underlying55 sz25_Lw rfl rfl zz0 zz6 (by first | exact bl_length _ | (rw [fl_length]; exact (rv_ok bs _).1)) (by first | omega | (rw [(rv_ok bs _).1]; omega))) ?_
  refine SW.q rfl (.inl rfl) rfl (by decide) (yq_loadF rfl fb25_Lw rfl zz0 (by first | omega | (rw [(rv_ok bs _).1]; omega))) ?_
  refine SW.r rfl (.inl rfl) rfl (by decide) (yr_build rfl lay32_Lw rfl (.cons rfl (.cons rfl (.cons rfl .nil))) zz7 rfl) ?_
  refine SW.s rfl (.inl rfl) rfl (yc_store rfl sz32_Lw rfl rfl zz3 (.inr ⟨rfl, rfl⟩) rfl zz4 (by decide) rfl) ?_
  rintro ⟨⟩
  refine SW.done ?_
  refine VE.then_wp ?_
  refine V.ret ?_
  refine retC rfl (rv_cellS rfl Try.underlying32 sz32_Lw zz0 rfl rfl rfl) (by nofun) (fun w1 hw => ?_)
  obtain rfl : k = 3 := by omega
  obtain ⟨x0, y0, e0⟩ := rv_at bs 3 (i := 0) (by decide)
  obtain ⟨x1, y1, e1⟩ := rv_at bs 3 (i := 1) (by decide)
  obtain ⟨x2, y2, e2⟩ := rv_at bs 3 (i := 2) (by decide)
  exact ⟨⟨(x0, x1, x2), y0, y1, y2⟩, by rw [← e0, ← e1, ← e2]; rfl, hw.below, (fun _ h => by cases h), List.Pairwise.nil⟩
theorem c_ifNumL {w : World} {x : Nat} (hf : fin x = true) : Pure Try.prog 34 [.float .f32 x] w (.tuple #[.float .f32 x, .bool true]) := by
  refine Pure.enter Try.func34 rfl Try.ntmps34 (Nat.le_of_ble_eq_true rfl) ?_
  refine V.seq ?_
  refine V.region ?_
  refine VL.r (.inl rfl) rfl (by decide) (yr_assign (u := .float .f32 0) rfl rfl) ?_
  refine VL.r (.inl rfl) rfl (by decide) (yr_assign (u := .bool false) rfl rfl) ?_
  refine VL.nil ?_
  refine VE.then_wp ?_
  refine V.seq ?_
  refine V.seq ?_
  refine V.region ?_
  refine VL.r (.inl rfl) rfl (by decide) (yr_move rfl rfl) ?_
  refine VL.q (.inl rfl) rfl (by decide) (yq_callf rfl known20_Lw (.cons rfl .nil) (fun w hw => c_IsFinite _)) ?_
  refine VL.r (.inl rfl) rfl (by decide) (yr_not rfl rfl) ?_
  refine VL.nil ?_
  refine VE.then_wp ?_
  refine V.cond rfl (fun h1 => ?_) (fun h1 => ?_)
  · skip
    replace h1 := bnot_t h1
    rw [hf] at h1; cases h1
  replace h1 := bnot_f h1
  refine V.skip ?_
  refine VE.then_wp ?_
  refine V.seq ?_
  refine V.region ?_
  refine VL.r (.inl rfl) rfl (by decide) (yr_move rfl rfl) ?_
  refine VL.r (.inl rfl) rfl (by decide) (yr_assign rfl rfl) ?_
  refine VL.r (.inl rfl) rfl (by decide) (yr_assign (u := .bool true) rfl rfl) ?_
  refine VL.nil ?_
  refine VE.then_wp ?_
  refine V.ret ?_
  refine ret2 rfl rfl rfl (by nofun) (by nofun) (fun w1 hw => ?_)
  exact ⟨rfl, hw.below⟩
theorem c_isLine {w : World} {a : Option Addr} {c n : Nat} (h1 : 1 ≤ n) (h2 : n ≤ 64) : Pure Try.prog 31 [.slice a n c] w (.bool true) := by
  refine Pure.enter Try.func31 rfl Try.ntmps31 (Nat.le_of_ble_eq_true rfl) ?_
  refine V.seq ?_
  refine V.region ?_
  refine VL.r (.inl rfl) rfl (by decide) (yr_assign (u := .bool false) rfl rfl) ?_
  refine VL.nil ?_
  refine VE.then_wp ?_
  refine V.seq ?_
  refine V.region ?_
  refine VL.r (.inl rfl) rfl (by decide) (yr_move rfl rfl) ?_
  refine VL.r (.inl rfl) rfl (by decide) (yr_len rfl Try.underlying24 rfl) ?_
  refine VL.r (.inl rfl) rfl (by decide) (yr_icmp rfl (.inr (.inr (.inr (.inr (.inr rfl))))) rfl rfl) ?_
  refine VL.r (.inl rfl) rfl (by decide) (yr_move rfl rfl) ?_
  refine VX.split 6 _ rfl (fun h1 => ?_) (fun h1 => ?_)
  · skip
    replace h1 := ic_geq h1
    refine VL.r (.inr ⟨_, _, _, rfl, rfl, rfl⟩) rfl (by decide) (yr_move rfl rfl) ?_
    refine VL.r (.inr ⟨_, _, _, rfl, rfl, rfl⟩) rfl (by decide) (yr_len rfl Try.underlying24 rfl) ?_
    refine VL.r (.inr ⟨_, _, _, rfl, rfl, rfl⟩) rfl (by decide) (yr_icmp rfl (.inr (.inr (.inr (.inl rfl)))) rfl rfl) ?_
    refine VL.r (.inl rfl) rfl (by decide) (yr_pick_t rfl rfl rfl) ?_
    refine VL.r (.inl rfl) rfl (by decide) (yr_assign rfl rfl) ?_
    refine VL.nil ?_
    refine VE.then_wp ?_
    refine V.ret ?_
    refine ret1 rfl rfl (fun w1 hw => ?_)
    first
      | exact ⟨congrArg Value.bool (decide_eq_true (by omega)), hw.below⟩
      | (exfalso; omega)
  replace h1 := ic_geq' h1
  refine VL.no rfl rfl rfl rfl rfl (by decide) ?_
  refine VL.no rfl rfl rfl rfl rfl (by decide) ?_
  refine VL.no rfl rfl rfl rfl rfl (by decide) ?_
  refine VL.r (.inl rfl) rfl (by decide) (yr_pick_f (u := .bool false) rfl rfl rfl) ?_
  refine VL.r (.inl rfl) rfl (by decide) (yr_assign rfl rfl) ?_
  refine VL.nil ?_
  refine VE.then_wp ?_
  refine V.ret ?_
  refine ret1 rfl rfl (fun w1 hw => ?_)
  first
    | exact ⟨congrArg Value.bool (decide_eq_true (by omega)), hw.below⟩
    | (exfalso; omega)
theorem c_lineLen {w : World} {a : Option Addr} {c m : Nat} {L : List V3} (hA : Cl w a (vl L)) (hL : L.length = m + 1) (hm : m ≤ 63) (hf : fin (llS L m) = true) : Pure Try.prog 12 [.slice a L.length c] w (.tuple #[.float .f32 (llS L m), .bool true]) := by
  refine Pure.enter Try.func12 rfl Try.ntmps12 (Nat.le_of_ble_eq_true rfl) ?_
  refine V.seq ?_
  refine V.region ?_
  refine VL.r (.inl rfl) rfl (by decide) (yr_assign (u := .float .f32 0) rfl rfl) ?_
  refine VL.r (.inl rfl) rfl (by decide) (yr_assign (u := .bool false) rfl rfl) ?_
  refine VL.nil ?_
  refine VE.then_wp ?_
  refine V.seq ?_
  refine V.seq ?_
  refine V.region ?_
  refine VL.r (.inl rfl) rfl (by decide) (yr_move rfl rfl) ?_
  refine VL.q (.inl rfl) rfl (by decide) (yq_callf rfl known31_Lw (.cons rfl .nil) (fun w hw => (c_isLine (by omega) (by omega)))) ?_
  refine VL.r (.inl rfl) rfl (by decide) (yr_not rfl rfl) ?_
  refine VL.nil ?_
  refine VE.then_wp ?_
  refine V.cond rfl (fun h1 => ?_) (fun h1 => ?_)
  · skip
    replace h1 := bnot_t h1
    cases h1
  replace h1 := bnot_f h1
  refine V.skip ?_
  refine VE.then_wp ?_
  refine V.seq ?_
  refine V.region ?_
  refine VL.r (.inl rfl) rfl (by decide) (yr_assign (u := .float .f32 0) rfl rfl) ?_
  refine VL.nil ?_
  refine VE.then_wp ?_
  refine V.seq ?_
  refine V.seq ?_
  refine V.region ?_
  refine VL.r (.inl rfl) rfl (by decide) (yr_assign (u := .int .i64 1) rfl rfl) ?_
  refine VL.nil ?_
  refine VE.then_wp ?_
  refine V.block ?_
  refine V.loops (G := Nat) [(0, _)] (fun (k : Nat) => k ≤ m) (fun (k : Nat) => [(4, .float .f32 (llS L k)), (5, .int .i64 ((k + 1 : Nat) : Int))]) (fun (k : Nat) => m - k) 0 (.cons rfl .nil) (.cons (congrArg (fun i => some (Value.float .f32 i)) (by exact llS_zero L)) (.cons (congrArg (fun i => some (Value.int .i64 i)) (by rfl)) .nil)) ?_ ?_
  · exact (Nat.zero_le _)
  rintro k hk
  show V _ _ _ _ ([(4, .float .f32 (llS L k)), (5, .int .i64 ((k + 1 : Nat) : Int))] ++ [(0, _)]) _ _
  refine V.seq ?_
  refine V.seq ?_
  refine V.region ?_
  refine VL.r (.inl rfl) rfl (by decide) (yr_move rfl rfl) ?_
  refine VL.r (.inl rfl) rfl (by decide) (yr_move rfl rfl) ?_
  refine VL.r (.inl rfl) rfl (by decide) (yr_len rfl Try.underlying24 rfl) ?_
  refine VL.r (.inl rfl) rfl (by decide) (yr_icmp rfl (.inr (.inr (.inl rfl))) rfl rfl) ?_
  refine VL.nil ?_
  refine VE.then_wp ?_
  refine V.cond rfl (fun h2 => ?_) (fun h2 => ?_)
  · skip
    replace h2 := ic_lss h2
    refine V.skip ?_
    refine VE.then_wp ?_
    refine V.seq ?_
    refine V.block ?_
    refine Dr.V.drawR [(0, 5), (1, 5), (2, 5), (3, 5), (4, 5), (5, 5), (6, 5), (7, 5), (8, 5), (9, 5), (10, 5), (11, 5), (12, 5), (13, 5)] [] [] _ mixed_Lw (by kernel_rfl) (fun w hw => hw) ?_
    refine Dr.SW.r rfl (.inl rfl) rfl (by decide) (yr_move rfl rfl) ?_
    refine Dr.SW.r rfl (.inl rfl) rfl (by decide) (yr_move rfl rfl) ?_
    refine Dr.SW.r rfl (.inl rfl) rfl (by decide) (yr_move rfl rfl) ?_
    refine Dr.SW.p rfl (.inl rfl) rfl (by decide) (yq_idxN (k := (k + 1)) rfl Try.underlying24 sz32_Lw rfl rfl zz1 zz6 (by exact vl_length _) (by decide) (by omega)) ?_
    refine Dr.SW.p rfl (.inl rfl) rfl (by decide) (yq_loadV rfl Try.underlying32 sz32_Lw rfl zz1 (by omega)) ?_
    refine Dr.SW.r rfl (.inl rfl) rfl (by decide) (yr_move rfl rfl) ?_
    refine Dr.SW.r rfl (.inl rfl) rfl (by decide) (yr_move rfl rfl) ?_
    refine Dr.SW.r rfl (.inl rfl) rfl (by decide) (yr_subN k rfl rfl rfl (by omega) (by omega)) ?_
    refine Dr.SW.p rfl (.inl rfl) rfl (by decide) (yq_idxN (k := k) rfl Try.underlying24 sz32_Lw rfl rfl zz1 zz6 (by exact vl_length _) (by decide) (by omega)) ?_
    refine Dr.SW.p rfl (.inl rfl) rfl (by decide) (yq_loadV rfl Try.underlying32 sz32_Lw rfl zz1 (by omega)) ?_
    refine Dr.SW.p rfl (.inl rfl) rfl (by decide) (yq_callf rfl known33_Lw (.cons rfl (.cons rfl .nil)) (fun w hw => (c_sub3 (x1 := (L.getD (k + 1) z3).1) (x2 := (L.getD (k + 1) z3).2.1) (x3 := (L.getD (k + 1) z3).2.2) (y1 := (L.getD k z3).1) (y2 := (L.getD k z3).2.1) (y3 := (L.getD k z3).2.2)))) ?_
    refine Dr.SW.p rfl (.inl rfl) rfl (by decide) (yq_callf rfl known32_Lw (.cons rfl .nil) (fun w hw => (c_long3 (x1 := (sub3 (L.getD (k + 1) z3) (L.getD k z3)).1) (x2 := (sub3 (L.getD (k + 1) z3) (L.getD k z3)).2.1) (x3 := (sub3 (L.getD (k + 1) z3) (L.getD k z3)).2.2)))) ?_
    refine Dr.SW.r rfl (.inl rfl) rfl (by decide) (yr_float rfl (.inl rfl) rfl rfl) ?_
    refine Dr.SW.r rfl (.inl rfl) rfl (by decide) (yr_assign rfl rfl) ?_
    refine Dr.SW.done ?_
    refine Dr.eqO (by simp only [List.append_nil, List.append_assoc, List.cons_append, List.nil_append] <;> rfl) ?_
    refine VE.block_normal ?_
    refine VE.then_wp ?_
    refine V.region ?_
    refine VL.r (.inl rfl) rfl (by decide) (yr_move rfl rfl) ?_
    refine VL.r (.inl rfl) rfl (by decide) (yr_int rfl rfl rfl (.inl ⟨rfl, wrap_in (by omega)⟩)) ?_
    refine VL.r (.inl rfl) rfl (by decide) (yr_assign rfl rfl) ?_
    refine VL.nil ?_
    refine VE.round (k + 1) ?_ ?_ ?_ ?_ ?_
    · exact (.cons (congrArg (fun i => some (Value.float .f32 i)) (by exact llS_succ L k)) (.cons (congrArg (fun i => some (Value.int .i64 i)) (by omega)) .nil))
    · exact (.cons rfl .nil)
    · exact (fun w hw => hw)
    · (try dsimp only); omega
    · (try dsimp only); omega
  replace h2 := ic_lss' h2
  obtain rfl : k = m := by omega
  refine V.exit ?_
  refine VE.then_exit ?_
  refine VE.then_exit ?_
  refine VE.block_here ?_
  refine VE.then_wp ?_
  refine V.seq ?_
  refine V.region ?_
  refine VL.r (.inl rfl) rfl (by decide) (yr_move rfl rfl) ?_
  refine VL.q (.inl rfl) rfl (by decide) (yq_callf rfl known34_Lw (.cons rfl .nil) (fun w hw => (c_ifNumL hf))) ?_
  refine VL.r (.inl rfl) rfl (by decide) (yr_extract rfl rfl rfl (by nofun)) ?_
  refine VL.r (.inl rfl) rfl (by decide) (yr_extract rfl rfl rfl (by nofun)) ?_
  refine VL.r (.inl rfl) rfl (by decide) (yr_assign rfl rfl) ?_
  refine VL.r (.inl rfl) rfl (by decide) (yr_assign rfl rfl) ?_
  refine VL.nil ?_
  refine VE.then_wp ?_
  refine V.ret ?_
  refine ret2 rfl rfl rfl (by nofun) (by nofun) (fun w1 hw => ?_)
  exact ⟨rfl, hw.below⟩
theorem c_nearB {w : World} {a : Option Addr} {c m : Nat} {L : List V3} (hA : Cl w a (vl L)) (hL : L.length = m + 1) (hm : m ≤ 63) (hf : fin (long3 (sub3 (L.getD m z3) (L.getD 0 z3))) = true) : Pure Try.prog 15 [.slice a L.length c, .int .i64 (m : Int)] w (.tuple #[.int .i64 (m : Int), .float .f32 (long3 (sub3 (L.getD m z3) (L.getD 0 z3))), .bool true]) := by
  refine Pure.enter Try.func15 rfl Try.ntmps15 (Nat.le_of_ble_eq_true rfl) ?_
  refine V.seq ?_
  refine V.region ?_
  refine VL.r (.inl rfl) rfl (by decide) (yr_assign (u := .int .i64 0) rfl rfl) ?_
  refine VL.r (.inl rfl) rfl (by decide) (yr_assign (u := .float .f32 0) rfl rfl) ?_
  refine VL.r (.inl rfl) rfl (by decide) (yr_assign (u := .bool false) rfl rfl) ?_
  refine VL.nil ?_
  refine VE.then_wp ?_
  refine V.seq ?_
  refine V.seq ?_
  refine V.region ?_
  refine VL.r (.inl rfl) rfl (by decide) (yr_move rfl rfl) ?_
  refine VL.q (.inl rfl) rfl (by decide) (yq_callf rfl known31_Lw (.cons rfl .nil) (fun w hw => (c_isLine (by omega) (by omega)))) ?_
  refine VL.r (.inl rfl) rfl (by decide) (yr_not rfl rfl) ?_
  refine VL.r (.inl rfl) rfl (by decide) (yr_move rfl rfl) ?_
  refine VX.split 14 _ rfl (fun h1 => ?_) (fun h1 => ?_)
  · skip
    replace h1 := bnot_t h1
    refine VL.no rfl rfl rfl rfl rfl (by decide) ?_
    refine VL.no rfl rfl rfl rfl rfl (by decide) ?_
    refine VL.no rfl rfl rfl rfl rfl (by decide) ?_
    refine VL.no rfl rfl rfl rfl rfl (by decide) ?_
    refine VL.no rfl rfl rfl rfl rfl (by decide) ?_
    refine VL.no rfl rfl rfl rfl rfl (by decide) ?_
    refine VL.r (.inl rfl) rfl (by decide) (yr_pick_t (u := .bool true) rfl rfl rfl) ?_
    refine VL.nil ?_
    refine VE.then_wp ?_
    refine V.condT rfl ?_
    refine V.seq ?_
    refine V.region ?_
    refine VL.r (.inl rfl) rfl (by decide) (yr_assign (u := .int .i64 0) rfl rfl) ?_
    refine VL.r (.inl rfl) rfl (by decide) (yr_assign (u := .float .f32 0) rfl rfl) ?_
    refine VL.r (.inl rfl) rfl (by decide) (yr_assign (u := .bool false) rfl rfl) ?_
    refine VL.nil ?_
    refine VE.then_wp ?_
    refine V.ret ?_
    refine VE.then_ret ?_
    refine ret3 rfl rfl rfl rfl (by nofun) (by nofun) (by nofun) (fun w1 hw => ?_)
    first
      | (subst hk1; exact ⟨rfl, hw.below⟩)
      | (exfalso; simp_all; done)
  replace h1 := bnot_f h1
  refine VL.r (.inr ⟨_, _, _, rfl, rfl, rfl⟩) rfl (by decide) (yr_move rfl rfl) ?_
  refine VL.r (.inr ⟨_, _, _, rfl, rfl, rfl⟩) rfl (by decide) (yr_move rfl rfl) ?_
  refine VL.r (.inr ⟨_, _, _, rfl, rfl, rfl⟩) rfl (by decide) (yr_len rfl Try.underlying24 rfl) ?_
  refine VL.r (.inr ⟨_, _, _, rfl, rfl, rfl⟩) rfl (by decide) (yr_int rfl rfl rfl (.inr (.inl ⟨rfl, wrap_in (by omega)⟩))) ?_
  refine VL.q (.inr ⟨_, _, _, rfl, rfl, rfl⟩) rfl (by decide) (yq_callf rfl known35_Lw (.cons rfl (.cons rfl (.cons rfl .nil))) (fun w hw => c_within)) ?_
  refine VL.r (.inr ⟨_, _, _, rfl, rfl, rfl⟩) rfl (by decide) (yr_not rfl rfl) ?_
  refine VL.r (.inl rfl) rfl (by decide) (yr_pick_f rfl rfl rfl) ?_
  refine VL.nil ?_
  refine VE.then_wp ?_
  refine V.cond rfl (fun h3 => ?_) (fun h3 => ?_)
  · skip
    replace h3 := bnot_t h3
    exfalso; have h9 := of_decide_eq_false h3; omega
  replace h3 := bnot_f h3
  refine V.skip ?_
  refine VE.then_wp ?_
  refine V.seq ?_
  refine V.region ?_
  refine VL.r (.inl rfl) rfl (by decide) (yr_assign (u := .int .i64 (-1)) rfl rfl) ?_
  refine VL.r (.inl rfl) rfl (by decide) (yr_assign (u := .float .f32 0) rfl rfl) ?_
  refine VL.nil ?_
  refine VE.then_wp ?_
  refine V.seq ?_
  refine V.seq ?_
  refine V.region ?_
  refine VL.r (.inl rfl) rfl (by decide) (yr_move rfl rfl) ?_
  refine VL.r (.inl rfl) rfl (by decide) (yr_assign rfl rfl) ?_
  refine VL.nil ?_
  refine VE.then_wp ?_
  refine V.block ?_
  refine V.loops (G := Nat) [(0, _)] (fun (k : Nat) => k ≤ 1) (fun (k : Nat) => [(7, .int .i64 (nbI m k)), (8, .float .f32 (nbF (long3 (sub3 (L.getD m z3) (L.getD 0 z3))) k)), (9, .int .i64 ((m + k : Nat) : Int))]) (fun (k : Nat) => 1 - k) 0 (.cons rfl .nil) (.cons (congrArg (fun i => some (Value.int .i64 i)) (by rfl)) (.cons (congrArg (fun i => some (Value.float .f32 i)) (by rfl)) (.cons (congrArg (fun i => some (Value.int .i64 i)) (by rfl)) .nil))) ?_ ?_
  · exact (Nat.zero_le _)
  rintro k hk
  show V _ _ _ _ ([(7, .int .i64 (nbI m k)), (8, .float .f32 (nbF (long3 (sub3 (L.getD m z3) (L.getD 0 z3))) k)), (9, .int .i64 ((m + k : Nat) : Int))] ++ [(0, _)]) _ _
  refine V.seq ?_
  refine V.seq ?_
  refine V.region ?_
  refine VL.r (.inl rfl) rfl (by decide) (yr_move rfl rfl) ?_
  refine VL.r (.inl rfl) rfl (by decide) (yr_move rfl rfl) ?_
  refine VL.r (.inl rfl) rfl (by decide) (yr_len rfl Try.underlying24 rfl) ?_
  refine VL.r (.inl rfl) rfl (by decide) (yr_icmp rfl (.inr (.inr (.inl rfl))) rfl rfl) ?_
  refine VL.nil ?_
  refine VE.then_wp ?_
  refine V.cond rfl (fun h4 => ?_) (fun h4 => ?_)
  · skip
    replace h4 := ic_lss h4
    have hk0 : k = 0 := by omega
    refine V.skip ?_
    refine VE.then_wp ?_
    refine V.seq ?_
    refine V.block ?_
    refine V.seq ?_
    refine Dr.V.drawR [(0, 5), (1, 5), (2, 5), (3, 5), (4, 5), (5, 5), (6, 5), (7, 5), (8, 5), (9, 5)] [] [] _ mixed_Lw (by kernel_rfl) (fun w hw => hw) ?_
    refine Dr.SW.r rfl (.inl rfl) rfl (by decide) (yr_move rfl rfl) ?_
    refine Dr.SW.r rfl (.inl rfl) rfl (by decide) (yr_move rfl rfl) ?_
    refine Dr.SW.p rfl (.inl rfl) rfl (by decide) (yq_idxN (k := (m + k)) rfl Try.underlying24 sz32_Lw rfl rfl zz1 zz6 (by exact vl_length _) (by decide) (by omega)) ?_
    refine Dr.SW.p rfl (.inl rfl) rfl (by decide) (yq_loadV rfl Try.underlying32 sz32_Lw rfl zz1 (by omega)) ?_
    refine Dr.SW.r rfl (.inl rfl) rfl (by decide) (yr_move rfl rfl) ?_
    refine Dr.SW.p rfl (.inl rfl) rfl (by decide) (yq_idxN (k := 0) rfl Try.underlying24 sz32_Lw rfl rfl zz1 zz6 (by exact vl_length _) (by decide) (by omega)) ?_
    refine Dr.SW.p rfl (.inl rfl) rfl (by decide) (yq_loadV rfl Try.underlying32 sz32_Lw rfl zz1 (by omega)) ?_
    refine Dr.SW.p rfl (.inl rfl) rfl (by decide) (yq_callf rfl known33_Lw (.cons rfl (.cons rfl .nil)) (fun w hw => (c_sub3 (x1 := (L.getD (m + k) z3).1) (x2 := (L.getD (m + k) z3).2.1) (x3 := (L.getD (m + k) z3).2.2) (y1 := (L.getD 0 z3).1) (y2 := (L.getD 0 z3).2.1) (y3 := (L.getD 0 z3).2.2)))) ?_
    refine Dr.SW.p rfl (.inl rfl) rfl (by decide) (yq_callf rfl known32_Lw (.cons rfl .nil) (fun w hw => (c_long3 (x1 := (sub3 (L.getD (m + k) z3) (L.getD 0 z3)).1) (x2 := (sub3 (L.getD (m + k) z3) (L.getD 0 z3)).2.1) (x3 := (sub3 (L.getD (m + k) z3) (L.getD 0 z3)).2.2)))) ?_
    refine Dr.SW.r rfl (.inl rfl) rfl (by decide) (yr_assign rfl rfl) ?_
    refine Dr.SW.done ?_
    refine Dr.eqO (by simp only [List.append_nil, List.append_assoc, List.cons_append, List.nil_append] <;> rfl) ?_
    refine VE.then_wp ?_
    refine V.seq ?_
    refine V.region ?_
    refine VL.r (.inl rfl) rfl (by decide) (yr_move rfl rfl) ?_
    refine VL.r (.inl rfl) rfl (by decide) (yr_move rfl rfl) ?_
    refine VL.r (.inl rfl) rfl (by decide) (yr_fcmp rfl (.inl rfl) rfl rfl) ?_
    refine VL.r (.inl rfl) rfl (by decide) (yr_move rfl rfl) ?_
    refine VX.split 41 _ rfl (fun h5 => ?_) (fun h5 => ?_)
    · skip
      refine VL.r (.inr ⟨_, _, _, rfl, rfl, rfl⟩) rfl (by decide) (yr_move rfl rfl) ?_
      refine VL.r (.inr ⟨_, _, _, rfl, rfl, rfl⟩) rfl (by decide) (yr_icmp rfl (.inr (.inr (.inl rfl))) rfl rfl) ?_
      refine VL.r (.inr ⟨_, _, _, rfl, rfl, rfl⟩) rfl (by decide) (yr_move rfl rfl) ?_
      refine VX.split 44 _ rfl (fun h6 => ?_) (fun h6 => ?_)
      · skip
        replace h6 := ic_lss h6
        refine VL.no rfl rfl rfl rfl rfl (by decide) ?_
        refine VL.no rfl rfl rfl rfl rfl (by decide) ?_
        refine VL.no rfl rfl rfl rfl rfl (by decide) ?_
        refine VL.r (.inr ⟨_, _, _, rfl, rfl, rfl⟩) rfl (by decide) (yr_pick_t (u := .bool true) rfl rfl rfl) ?_
        refine VL.r (.inl rfl) rfl (by decide) (yr_pick_t rfl rfl rfl) ?_
        refine VL.nil ?_
        refine VE.then_wp ?_
        refine V.condT rfl ?_
        refine V.region ?_
        refine VL.r (.inl rfl) rfl (by decide) (yr_move rfl rfl) ?_
        refine VL.r (.inl rfl) rfl (by decide) (yr_move rfl rfl) ?_
        refine VL.r (.inl rfl) rfl (by decide) (yr_assign rfl rfl) ?_
        refine VL.r (.inl rfl) rfl (by decide) (yr_assign rfl rfl) ?_
        refine VL.nil ?_
        refine VE.block_normal ?_
        refine VE.then_wp ?_
        refine V.region ?_
        refine VL.r (.inl rfl) rfl (by decide) (yr_move rfl rfl) ?_
        refine VL.r (.inl rfl) rfl (by decide) (yr_int rfl rfl rfl (.inl ⟨rfl, wrap_in (by omega)⟩)) ?_
        refine VL.r (.inl rfl) rfl (by decide) (yr_assign rfl rfl) ?_
        refine VL.nil ?_
        refine VE.round (k + 1) ?_ ?_ ?_ ?_ ?_
        · exact (.cons (congrArg (fun i => some (Value.int .i64 i)) (by rw [hk0, Nat.add_zero]; rfl)) (.cons (congrArg (fun i => some (Value.float .f32 i)) (by rw [hk0, Nat.add_zero]; rfl)) (.cons (congrArg (fun i => some (Value.int .i64 i)) (by omega)) .nil)))
        · exact (.cons rfl .nil)
        · exact (fun w hw => hw)
        · (try dsimp only); omega
        · (try dsimp only); omega
      replace h6 := ic_lss' h6
      exact absurd (show nbI m k < 0 by rw [hk0]; exact Int.negSucc_lt_zero 0) (by omega)
    rw [hk0, Nat.add_zero, eql_self hf] at h5; cases h5
  replace h4 := ic_lss' h4
  have hk1 : k = 1 := by omega
  refine V.exit ?_
  refine VE.then_exit ?_
  refine VE.then_exit ?_
  refine VE.block_here ?_
  refine VE.then_wp ?_
  refine V.seq ?_
  refine V.seq ?_
  refine V.region ?_
  refine VL.r (.inl rfl) rfl (by decide) (yr_move rfl rfl) ?_
  refine VL.r (.inl rfl) rfl (by decide) (yr_icmp rfl (.inr (.inr (.inl rfl))) rfl rfl) ?_
  refine VL.r (.inl rfl) rfl (by decide) (yr_move rfl rfl) ?_
  refine VX.split 54 _ rfl (fun h8 => ?_) (fun h8 => ?_)
  · skip
    replace h8 := ic_lss h8
    rw [hk1] at h8; exact absurd h8 (by show ¬ ((m : Int) < 0); omega)
  replace h8 := ic_lss' h8
  refine VL.r (.inr ⟨_, _, _, rfl, rfl, rfl⟩) rfl (by decide) (yr_move rfl rfl) ?_
  refine VL.q (.inr ⟨_, _, _, rfl, rfl, rfl⟩) rfl (by decide) (yq_callf rfl known20_Lw (.cons rfl .nil) (fun w hw => c_IsFinite _)) ?_
  refine VL.r (.inr ⟨_, _, _, rfl, rfl, rfl⟩) rfl (by decide) (yr_not rfl rfl) ?_
  refine VL.r (.inl rfl) rfl (by decide) (yr_pick_f rfl rfl rfl) ?_
  refine VL.nil ?_
  refine VE.then_wp ?_
  refine V.cond rfl (fun h9 => ?_) (fun h9 => ?_)
  · skip
    replace h9 := bnot_t h9
    rw [hk1, show fin (nbF (long3 (sub3 (L.getD m z3) (L.getD 0 z3))) 1) = true from hf] at h9; cases h9
  replace h9 := bnot_f h9
  refine V.skip ?_
  refine VE.then_wp ?_
  refine V.seq ?_
  refine V.region ?_
  refine VL.r (.inl rfl) rfl (by decide) (yr_move rfl rfl) ?_
  refine VL.r (.inl rfl) rfl (by decide) (yr_move rfl rfl) ?_
  refine VL.r (.inl rfl) rfl (by decide) (yr_assign rfl rfl) ?_
  refine VL.r (.inl rfl) rfl (by decide) (yr_assign rfl rfl) ?_
  refine VL.r (.inl rfl) rfl (by decide) (yr_assign (u := .bool true) rfl rfl) ?_
  refine VL.nil ?_
  refine VE.then_wp ?_
  refine V.ret ?_
  refine ret3 rfl rfl rfl rfl (by nofun) (by nofun) (by nofun) (fun w1 hw => ?_)
  first
    | (subst hk1; exact ⟨rfl, hw.below⟩)
    | (exfalso; simp_all; done)
theorem c_r8Apart {w : World} {x1 x2 x3 y1 y2 y3 : Nat} : Pure Try.prog 14 [vv (x1, x2, x3), vv (y1, y2, y3)] w (.float .f64 (up (long3 (sub3 (x1, x2, x3) (y1, y2, y3))))) := by
  refine Pure.enter Try.func14 rfl Try.ntmps14 (Nat.le_of_ble_eq_true rfl) ?_
  refine V.seq ?_
  refine V.region ?_
  refine VL.new1 (.inl rfl) rfl (by decide) (yn_box rfl rfl (.inr ⟨rfl, rfl⟩)) ?_
  intro b2
  refine VL.new1 (.inl rfl) rfl (by decide) (yn_box rfl rfl (.inr ⟨rfl, rfl⟩)) ?_
  intro b3
  refine VL.r (.inl rfl) rfl (by decide) (yr_assign (u := .float .f64 0) rfl rfl) ?_
  refine VL.nil ?_
  refine VE.then_wp ?_
  refine V.seq ?_
  refine V.region ?_
  refine VL.q (.inl rfl) rfl (by decide) (yq_loadS rfl Try.underlying32 sz32_Lw rfl zz0 rfl rfl rfl) ?_
  refine VL.q (.inl rfl) rfl (by decide) (yq_loadS rfl Try.underlying32 sz32_Lw rfl zz0 rfl rfl rfl) ?_
  refine VL.q (.inl rfl) rfl (by decide) (yq_callf rfl known33_Lw (.cons rfl (.cons rfl .nil)) (fun w hw => (c_sub3 (x1 := x1) (x2 := x2) (x3 := x3) (y1 := y1) (y2 := y2) (y3 := y3)))) ?_
  refine VL.q (.inl rfl) rfl (by decide) (yq_callf rfl known32_Lw (.cons rfl .nil) (fun w hw => (c_long3 (x1 := (sub3 (x1, x2, x3) (y1, y2, y3)).1) (x2 := (sub3 (x1, x2, x3) (y1, y2, y3)).2.1) (x3 := (sub3 (x1, x2, x3) (y1, y2, y3)).2.2)))) ?_
  refine VL.r (.inl rfl) rfl (by decide) (yr_fconv rfl Try.underlying25 Try.underlying45 (by decide) rfl (fover_up _)) ?_
  refine VL.r (.inl rfl) rfl (by decide) (yr_assign rfl rfl) ?_
  refine VL.nil ?_
  refine VE.then_wp ?_
  refine V.ret ?_
  refine ret1 rfl rfl (fun w1 hw => ?_)
  exact ⟨rfl, hw.below⟩
theorem c_bend {w : World} {a : Option Addr} {c m : Nat} {L : List V3} (hA : Cl w a (vl L)) (hL : L.length = m + 1) (hm : m ≤ 63) (hf : fin (bdK L (m - 1)).1 = true) : Pure Try.prog 16 [.slice a L.length c] w (.tuple #[.float .f32 (bdK L (m - 1)).1, .bool true]) := by
  refine Pure.enter Try.func16 rfl Try.ntmps16 (Nat.le_of_ble_eq_true rfl) ?_
  refine V.seq ?_
  refine V.region ?_
  refine VL.r (.inl rfl) rfl (by decide) (yr_assign (u := .float .f32 0) rfl rfl) ?_
  refine VL.r (.inl rfl) rfl (by decide) (yr_assign (u := .bool false) rfl rfl) ?_
  refine VL.nil ?_
  refine VE.then_wp ?_
  refine V.seq ?_
  refine V.seq ?_
  refine V.region ?_
  refine VL.r (.inl rfl) rfl (by decide) (yr_move rfl rfl) ?_
  refine VL.q (.inl rfl) rfl (by decide) (yq_callf rfl known31_Lw (.cons rfl .nil) (fun w hw => (c_isLine (by omega) (by omega)))) ?_
  refine VL.r (.inl rfl) rfl (by decide) (yr_not rfl rfl) ?_
  refine VL.nil ?_
  refine VE.then_wp ?_
  refine V.cond rfl (fun h1 => ?_) (fun h1 => ?_)
  · skip
    replace h1 := bnot_t h1
    cases h1
  replace h1 := bnot_f h1
  refine V.skip ?_
  refine VE.then_wp ?_
  refine V.seq ?_
  refine V.region ?_
  refine VL.r (.inl rfl) rfl (by decide) (yr_assign (u := .float .f32 1065353216) rfl rfl) ?_
  refine VL.r (.inl rfl) rfl (by decide) (yr_assign (u := .bool false) rfl rfl) ?_
  refine VL.nil ?_
  refine VE.then_wp ?_
  refine V.seq ?_
  refine V.seq ?_
  refine V.region ?_
  refine VL.r (.inl rfl) rfl (by decide) (yr_assign (u := .int .i64 2) rfl rfl) ?_
  refine VL.nil ?_
  refine VE.then_wp ?_
  refine V.block ?_
  refine V.loops (G := Nat) [(0, _)] (fun (k : Nat) => k ≤ m - 1) (fun (k : Nat) => [(4, .float .f32 (bdK L k).1), (5, .bool (bdK L k).2), (6, .int .i64 ((k + 2 : Nat) : Int))]) (fun (k : Nat) => m - k) 0 (.cons rfl .nil) (.cons (congrArg (fun i => some (Value.float .f32 i)) (by rw [bdK_zero])) (.cons (congrArg (fun i => some (Value.bool i)) (by rw [bdK_zero])) (.cons (congrArg (fun i => some (Value.int .i64 i)) (by rfl)) .nil))) ?_ ?_
  · exact (Nat.zero_le _)
  rintro k hk
  show V _ _ _ _ ([(4, .float .f32 (bdK L k).1), (5, .bool (bdK L k).2), (6, .int .i64 ((k + 2 : Nat) : Int))] ++ [(0, _)]) _ _
  refine V.seq ?_
  refine V.seq ?_
  refine V.region ?_
  refine VL.r (.inl rfl) rfl (by decide) (yr_move rfl rfl) ?_
  refine VL.r (.inl rfl) rfl (by decide) (yr_move rfl rfl) ?_
  refine VL.r (.inl rfl) rfl (by decide) (yr_len rfl Try.underlying24 rfl) ?_
  refine VL.r (.inl rfl) rfl (by decide) (yr_icmp rfl (.inr (.inr (.inl rfl))) rfl rfl) ?_
  refine VL.nil ?_
  refine VE.then_wp ?_
  refine V.cond rfl (fun h2 => ?_) (fun h2 => ?_)
  · skip
    replace h2 := ic_lss h2
    refine V.skip ?_
    refine VE.then_wp ?_
    refine V.seq ?_
    refine V.block ?_
    refine V.seq ?_
    refine Dr.V.drawR [(0, 5), (1, 5), (2, 5), (3, 5), (4, 5), (5, 5), (6, 5), (7, 5), (8, 5), (9, 5), (10, 5), (11, 5), (12, 5), (13, 5), (14, 5), (15, 5), (16, 5), (17, 5), (18, 5), (19, 5), (20, 5), (21, 2), (22, 2), (23, 3), (24, 3)] [(21, ((fun b => .pointer (some (adr (some ⟨b, 0, none⟩) 0))), (fun b => ⟨some ⟨b, 0, none⟩, [Value.float .f32 0, Value.float .f32 0, Value.float .f32 0], 3, 32⟩))), (22, ((fun b => .pointer (some (adr (some ⟨b, 0, none⟩) 0))), (fun b => ⟨some ⟨b, 0, none⟩, [Value.float .f32 0, Value.float .f32 0, Value.float .f32 0], 3, 32⟩)))] [] _ mixed_Lw (by kernel_rfl) (fun w hw => hw) ?_
    refine Dr.SW.r rfl (.inl rfl) rfl (by decide) (yr_move rfl rfl) ?_
    refine Dr.SW.r rfl (.inl rfl) rfl (by decide) (yr_move rfl rfl) ?_
    refine Dr.SW.r rfl (.inl rfl) rfl (by decide) (yr_subN (k + 1) rfl rfl rfl (by omega) (by omega)) ?_
    refine Dr.SW.p rfl (.inl rfl) rfl (by decide) (yq_idxN (k := (k + 1)) rfl Try.underlying24 sz32_Lw rfl rfl zz1 zz6 (by exact vl_length _) (by decide) (by omega)) ?_
    refine Dr.SW.p rfl (.inl rfl) rfl (by decide) (yq_loadV rfl Try.underlying32 sz32_Lw rfl zz1 (by omega)) ?_
    refine Dr.SW.r rfl (.inl rfl) rfl (by decide) (yr_move rfl rfl) ?_
    refine Dr.SW.r rfl (.inl rfl) rfl (by decide) (yr_move rfl rfl) ?_
    refine Dr.SW.r rfl (.inl rfl) rfl (by decide) (yr_subN k rfl rfl rfl (by omega) (by omega)) ?_
    refine Dr.SW.p rfl (.inl rfl) rfl (by decide) (yq_idxN (k := k) rfl Try.underlying24 sz32_Lw rfl rfl zz1 zz6 (by exact vl_length _) (by decide) (by omega)) ?_
    refine Dr.SW.p rfl (.inl rfl) rfl (by decide) (yq_loadV rfl Try.underlying32 sz32_Lw rfl zz1 (by omega)) ?_
    refine Dr.SW.p rfl (.inl rfl) rfl (by decide) (yq_callf rfl known33_Lw (.cons rfl (.cons rfl .nil)) (fun w hw => (c_sub3 (x1 := (L.getD (k + 1) z3).1) (x2 := (L.getD (k + 1) z3).2.1) (x3 := (L.getD (k + 1) z3).2.2) (y1 := (L.getD k z3).1) (y2 := (L.getD k z3).2.1) (y3 := (L.getD k z3).2.2)))) ?_
    refine Dr.SW.r rfl (.inl rfl) rfl (by decide) (yr_move rfl rfl) ?_
    refine Dr.SW.r rfl (.inl rfl) rfl (by decide) (yr_move rfl rfl) ?_
    refine Dr.SW.p rfl (.inl rfl) rfl (by decide) (yq_idxN (k := (k + 2)) rfl Try.underlying24 sz32_Lw rfl rfl zz1 zz6 (by exact vl_length _) (by decide) (by omega)) ?_
    refine Dr.SW.p rfl (.inl rfl) rfl (by decide) (yq_loadV rfl Try.underlying32 sz32_Lw rfl zz1 (by omega)) ?_
    refine Dr.SW.r rfl (.inl rfl) rfl (by decide) (yr_move rfl rfl) ?_
    refine Dr.SW.r rfl (.inl rfl) rfl (by decide) (yr_move rfl rfl) ?_
    refine Dr.SW.r rfl (.inl rfl) rfl (by decide) (yr_subN (k + 1) rfl rfl rfl (by omega) (by omega)) ?_
    refine Dr.SW.p rfl (.inl rfl) rfl (by decide) (yq_idxN (k := (k + 1)) rfl Try.underlying24 sz32_Lw rfl rfl zz1 zz6 (by exact vl_length _) (by decide) (by omega)) ?_
    refine Dr.SW.p rfl (.inl rfl) rfl (by decide) (yq_loadV rfl Try.underlying32 sz32_Lw rfl zz1 (by omega)) ?_
    refine Dr.SW.p rfl (.inl rfl) rfl (by decide) (yq_callf rfl known33_Lw (.cons rfl (.cons rfl .nil)) (fun w hw => (c_sub3 (x1 := (L.getD (k + 2) z3).1) (x2 := (L.getD (k + 2) z3).2.1) (x3 := (L.getD (k + 2) z3).2.2) (y1 := (L.getD (k + 1) z3).1) (y2 := (L.getD (k + 1) z3).2.1) (y3 := (L.getD (k + 1) z3).2.2)))) ?_
    refine Dr.SW.a rfl rfl rfl (by decide) rfl (fun w0 => (yn_alloc rfl zero32_Lw rfl)) ?_
    intro b7
    refine Dr.SW.a rfl rfl rfl (by decide) rfl (fun w0 => (yn_alloc rfl zero32_Lw rfl)) ?_
    intro b8
    refine Dr.SW.s rfl (.inl rfl) rfl (yc_store rfl sz32_Lw rfl rfl (Dr.UpdF.app zz3) (.inr ⟨rfl, rfl⟩) rfl zz4 (by decide) rfl) ?_
    rintro ⟨⟩
    refine Dr.SW.s rfl (.inl rfl) rfl (yc_store rfl sz32_Lw rfl rfl (Dr.UpdF.app zz3) (.inr ⟨rfl, rfl⟩) rfl zz4 (by decide) rfl) ?_
    rintro ⟨⟩
    refine Dr.SW.done ?_
    refine Dr.eqO (by simp only [List.append_nil, List.append_assoc, List.cons_append, List.nil_append] <;> rfl) ?_
    refine VE.then_wp ?_
    refine V.seq ?_
    refine Dr.V.drawR [(0, 5), (1, 5), (2, 5), (3, 5), (4, 5), (5, 5), (6, 5), (7, 5), (8, 5), (9, 5)] [] [] _ mixed_Lw (by kernel_rfl) (fun w hw => hw) ?_
    refine Dr.SW.p rfl (.inl rfl) rfl (by decide) (yq_loadS rfl Try.underlying32 sz32_Lw rfl zz1 rfl rfl rfl) ?_
    refine Dr.SW.p rfl (.inl rfl) rfl (by decide) (yq_loadS rfl Try.underlying32 sz32_Lw rfl zz1 rfl rfl rfl) ?_
    refine Dr.SW.p rfl (.inl rfl) rfl (by decide) (yq_callf rfl known36_Lw (.cons rfl (.cons rfl .nil)) (fun w hw => (c_inner3 (x1 := (sub3 (L.getD (k + 1) z3) (L.getD k z3)).1) (x2 := (sub3 (L.getD (k + 1) z3) (L.getD k z3)).2.1) (x3 := (sub3 (L.getD (k + 1) z3) (L.getD k z3)).2.2) (y1 := (sub3 (L.getD (k + 2) z3) (L.getD (k + 1) z3)).1) (y2 := (sub3 (L.getD (k + 2) z3) (L.getD (k + 1) z3)).2.1) (y3 := (sub3 (L.getD (k + 2) z3) (L.getD (k + 1) z3)).2.2)))) ?_
    refine Dr.SW.p rfl (.inl rfl) rfl (by decide) (yq_loadS rfl Try.underlying32 sz32_Lw rfl zz1 rfl rfl rfl) ?_
    refine Dr.SW.p rfl (.inl rfl) rfl (by decide) (yq_callf rfl known32_Lw (.cons rfl .nil) (fun w hw => (c_long3 (x1 := (sub3 (L.getD (k + 1) z3) (L.getD k z3)).1) (x2 := (sub3 (L.getD (k + 1) z3) (L.getD k z3)).2.1) (x3 := (sub3 (L.getD (k + 1) z3) (L.getD k z3)).2.2)))) ?_
    refine Dr.SW.p rfl (.inl rfl) rfl (by decide) (yq_loadS rfl Try.underlying32 sz32_Lw rfl zz1 rfl rfl rfl) ?_
    refine Dr.SW.p rfl (.inl rfl) rfl (by decide) (yq_callf rfl known32_Lw (.cons rfl .nil) (fun w hw => (c_long3 (x1 := (sub3 (L.getD (k + 2) z3) (L.getD (k + 1) z3)).1) (x2 := (sub3 (L.getD (k + 2) z3) (L.getD (k + 1) z3)).2.1) (x3 := (sub3 (L.getD (k + 2) z3) (L.getD (k + 1) z3)).2.2)))) ?_
    refine Dr.SW.r rfl (.inl rfl) rfl (by decide) (yr_float rfl (.inr (.inr (.inl rfl))) rfl rfl) ?_
    refine Dr.SW.r rfl (.inl rfl) rfl (by decide) (yr_float rfl (.inr (.inr (.inr rfl))) rfl rfl) ?_
    refine Dr.SW.r rfl (.inl rfl) rfl (by decide) (yr_assign rfl rfl) ?_
    refine Dr.SW.done ?_
    refine Dr.eqO (by simp only [List.append_nil, List.append_assoc, List.cons_append, List.nil_append] <;> rfl) ?_
    refine VE.then_wp ?_
    refine V.seq ?_
    refine V.region ?_
    refine VL.r (.inl rfl) rfl (by decide) (yr_move rfl rfl) ?_
    refine VL.r (.inl rfl) rfl (by decide) (yr_move rfl rfl) ?_
    refine VL.r (.inl rfl) rfl (by decide) (yr_fcmp rfl (.inl rfl) rfl rfl) ?_
    refine VL.r (.inl rfl) rfl (by decide) (yr_move rfl rfl) ?_
    refine VX.split 52 _ rfl (fun h3 => ?_) (fun h3 => ?_)
    · skip
      refine VL.r (.inr ⟨_, _, _, rfl, rfl, rfl⟩) rfl (by decide) (yr_move rfl rfl) ?_
      refine VL.r (.inr ⟨_, _, _, rfl, rfl, rfl⟩) rfl (by decide) (yr_not rfl rfl) ?_
      refine VL.r (.inr ⟨_, _, _, rfl, rfl, rfl⟩) rfl (by decide) (yr_move rfl rfl) ?_
      refine VX.split 55 _ rfl (fun h4 => ?_) (fun h4 => ?_)
      · skip
        replace h4 := bnot_t h4
        refine VL.no rfl rfl rfl rfl rfl (by decide) ?_
        refine VL.no rfl rfl rfl rfl rfl (by decide) ?_
        refine VL.no rfl rfl rfl rfl rfl (by decide) ?_
        refine VL.r (.inr ⟨_, _, _, rfl, rfl, rfl⟩) rfl (by decide) (yr_pick_t (u := .bool true) rfl rfl rfl) ?_
        refine VL.r (.inl rfl) rfl (by decide) (yr_pick_t rfl rfl rfl) ?_
        refine VL.nil ?_
        refine VE.then_wp ?_
        refine V.condT rfl ?_
        refine V.region ?_
        refine VL.r (.inl rfl) rfl (by decide) (yr_move rfl rfl) ?_
        refine VL.r (.inl rfl) rfl (by decide) (yr_assign rfl rfl) ?_
        refine VL.r (.inl rfl) rfl (by decide) (yr_assign (u := .bool true) rfl rfl) ?_
        refine VL.nil ?_
        refine VE.block_normal ?_
        refine VE.then_wp ?_
        refine V.region ?_
        refine VL.r (.inl rfl) rfl (by decide) (yr_move rfl rfl) ?_
        refine VL.r (.inl rfl) rfl (by decide) (yr_int rfl rfl rfl (.inl ⟨rfl, wrap_in (by omega)⟩)) ?_
        refine VL.r (.inl rfl) rfl (by decide) (yr_assign rfl rfl) ?_
        refine VL.nil ?_
        refine VE.round (k + 1) ?_ ?_ ?_ ?_ ?_
        · exact (.cons (congrArg (fun i => some (Value.float .f32 i)) zz10) (.cons (congrArg (fun i => some (Value.bool i)) zz9) (.cons (congrArg (fun i => some (Value.int .i64 i)) (by omega)) .nil)))
        · exact (.cons rfl .nil)
        · exact (fun w hw => hw.sub (List.nil_sublist _))
        · (try dsimp only); omega
        · (try dsimp only); omega
      replace h4 := bnot_f h4
      refine VL.r (.inr ⟨_, _, _, rfl, rfl, rfl⟩) rfl (by decide) (yr_move rfl rfl) ?_
      refine VL.r (.inr ⟨_, _, _, rfl, rfl, rfl⟩) rfl (by decide) (yr_move rfl rfl) ?_
      refine VL.r (.inr ⟨_, _, _, rfl, rfl, rfl⟩) rfl (by decide) (yr_fcmp rfl (.inr (.inr (.inl rfl))) rfl rfl) ?_
      refine VL.r (.inr ⟨_, _, _, rfl, rfl, rfl⟩) rfl (by decide) (yr_pick_f rfl rfl rfl) ?_
      refine VL.r (.inl rfl) rfl (by decide) (yr_pick_t rfl rfl rfl) ?_
      refine VL.nil ?_
      refine VE.then_wp ?_
      refine V.cond rfl (fun h6 => ?_) (fun h6 => ?_)
      · skip
        refine V.region ?_
        refine VL.r (.inl rfl) rfl (by decide) (yr_move rfl rfl) ?_
        refine VL.r (.inl rfl) rfl (by decide) (yr_assign rfl rfl) ?_
        refine VL.r (.inl rfl) rfl (by decide) (yr_assign (u := .bool true) rfl rfl) ?_
        refine VL.nil ?_
        refine VE.block_normal ?_
        refine VE.then_wp ?_
        refine V.region ?_
        refine VL.r (.inl rfl) rfl (by decide) (yr_move rfl rfl) ?_
        refine VL.r (.inl rfl) rfl (by decide) (yr_int rfl rfl rfl (.inl ⟨rfl, wrap_in (by omega)⟩)) ?_
        refine VL.r (.inl rfl) rfl (by decide) (yr_assign rfl rfl) ?_
        refine VL.nil ?_
        refine VE.round (k + 1) ?_ ?_ ?_ ?_ ?_
        · exact (.cons (congrArg (fun i => some (Value.float .f32 i)) zz10) (.cons (congrArg (fun i => some (Value.bool i)) zz9) (.cons (congrArg (fun i => some (Value.int .i64 i)) (by omega)) .nil)))
        · exact (.cons rfl .nil)
        · exact (fun w hw => hw.sub (List.nil_sublist _))
        · (try dsimp only); omega
        · (try dsimp only); omega
      refine V.skip ?_
      refine VE.block_normal ?_
      refine VE.then_wp ?_
      refine V.region ?_
      refine VL.r (.inl rfl) rfl (by decide) (yr_move rfl rfl) ?_
      refine VL.r (.inl rfl) rfl (by decide) (yr_int rfl rfl rfl (.inl ⟨rfl, wrap_in (by omega)⟩)) ?_
      refine VL.r (.inl rfl) rfl (by decide) (yr_assign rfl rfl) ?_
      refine VL.nil ?_
      refine VE.round (k + 1) ?_ ?_ ?_ ?_ ?_
      · exact (.cons (congrArg (fun i => some (Value.float .f32 i)) zz10) (.cons (congrArg (fun i => some (Value.bool i)) zz9) (.cons (congrArg (fun i => some (Value.int .i64 i)) (by omega)) .nil)))
      · exact (.cons rfl .nil)
      · exact (fun w hw => hw.sub (List.nil_sublist _))
      · (try dsimp only); omega
      · (try dsimp only); omega
    refine VL.no rfl rfl rfl rfl rfl (by decide) ?_
    refine VL.no rfl rfl rfl rfl rfl (by decide) ?_
    refine VL.no rfl rfl rfl rfl rfl (by decide) ?_
    refine VL.noU rfl rfl rfl rfl (by decide) ?_
    refine VL.noU rfl rfl rfl rfl (by decide) ?_
    refine VL.noU rfl rfl rfl rfl (by decide) ?_
    refine VL.no rfl rfl rfl rfl rfl (by decide) ?_
    refine VL.r (.inl rfl) rfl (by decide) (yr_pick_f (u := .bool false) rfl rfl rfl) ?_
    refine VL.nil ?_
    refine VE.then_wp ?_
    refine V.condF rfl ?_
    refine V.skip ?_
    refine VE.block_normal ?_
    refine VE.then_wp ?_
    refine V.region ?_
    refine VL.r (.inl rfl) rfl (by decide) (yr_move rfl rfl) ?_
    refine VL.r (.inl rfl) rfl (by decide) (yr_int rfl rfl rfl (.inl ⟨rfl, wrap_in (by omega)⟩)) ?_
    refine VL.r (.inl rfl) rfl (by decide) (yr_assign rfl rfl) ?_
    refine VL.nil ?_
    refine VE.round (k + 1) ?_ ?_ ?_ ?_ ?_
    · exact (.cons (congrArg (fun i => some (Value.float .f32 i)) zz10) (.cons (congrArg (fun i => some (Value.bool i)) zz9) (.cons (congrArg (fun i => some (Value.int .i64 i)) (by omega)) .nil)))
    · exact (.cons rfl .nil)
    · exact (fun w hw => hw.sub (List.nil_sublist _))
    · (try dsimp only); omega
    · (try dsimp only); omega
  replace h2 := ic_lss' h2
  obtain rfl : k = m - 1 := by omega
  refine V.exit ?_
  refine VE.then_exit ?_
  refine VE.then_exit ?_
  refine VE.block_here ?_
  refine VE.then_wp ?_
  refine V.seq ?_
  refine V.region ?_
  refine VL.r (.inl rfl) rfl (by decide) (yr_move rfl rfl) ?_
  refine VL.q (.inl rfl) rfl (by decide) (yq_callf rfl known34_Lw (.cons rfl .nil) (fun w hw => (c_ifNumL hf))) ?_
  refine VL.r (.inl rfl) rfl (by decide) (yr_extract rfl rfl rfl (by nofun)) ?_
  refine VL.r (.inl rfl) rfl (by decide) (yr_extract rfl rfl rfl (by nofun)) ?_
  refine VL.r (.inl rfl) rfl (by decide) (yr_assign rfl rfl) ?_
  refine VL.r (.inl rfl) rfl (by decide) (yr_assign rfl rfl) ?_
  refine VL.nil ?_
  refine VE.then_wp ?_
  refine V.ret ?_
  refine ret2 rfl rfl rfl (by nofun) (by nofun) (fun w1 hw => ?_)
  exact ⟨rfl, hw.below⟩
theorem c_thin {w : World} {a : Option Addr} {c m : Nat} {L : List V3} (hA : Cl w a (vl L)) (hL : L.length = m + 1) (hm : m ≤ 63) : New Try.prog 17 [.slice a L.length c, .int .i64 3] w (fun p : Option Addr × Nat => .tuple #[.slice p.1 (thK L (m + 1) (m + 1)).length p.2, .bool true]) (fun p => [⟨p.1, vl (thK L (m + 1) (m + 1)), p.2 * 3, 32⟩]) := by
  refine New.enter Try.func17 rfl Try.ntmps17 (Nat.le_of_ble_eq_true rfl) ?_
  refine V.seq ?_
  refine V.region ?_
  refine VL.r (.inl rfl) rfl (by decide) (yr_assign (u := .slice none 0 0) rfl rfl) ?_
  refine VL.r (.inl rfl) rfl (by decide) (yr_assign (u := .bool false) rfl rfl) ?_
  refine VL.nil ?_
  refine VE.then_wp ?_
  refine V.seq ?_
  refine V.seq ?_
  refine V.region ?_
  refine VL.r (.inl rfl) rfl (by decide) (yr_move rfl rfl) ?_
  refine VL.q (.inl rfl) rfl (by decide) (yq_callf rfl known31_Lw (.cons rfl .nil) (fun w hw => (c_isLine (by omega) (by omega)))) ?_
  refine VL.r (.inl rfl) rfl (by decide) (yr_not rfl rfl) ?_
  refine VL.r (.inl rfl) rfl (by decide) (yr_move rfl rfl) ?_
  refine VX.split 12 _ rfl (fun h1 => ?_) (fun h1 => ?_)
  · skip
    replace h1 := bnot_t h1
    cases h1
  replace h1 := bnot_f h1
  refine VL.r (.inr ⟨_, _, _, rfl, rfl, rfl⟩) rfl (by decide) (yr_move rfl rfl) ?_
  refine VL.q (.inr ⟨_, _, _, rfl, rfl, rfl⟩) rfl (by decide) (yq_callf rfl known35_Lw (.cons rfl (.cons rfl (.cons rfl .nil))) (fun w hw => c_within)) ?_
  refine VL.r (.inr ⟨_, _, _, rfl, rfl, rfl⟩) rfl (by decide) (yr_not rfl rfl) ?_
  refine VL.r (.inl rfl) rfl (by decide) (yr_pick_f rfl rfl rfl) ?_
  refine VL.nil ?_
  refine VE.then_wp ?_
  refine V.cond rfl (fun h2 => ?_) (fun h2 => ?_)
  · skip
    replace h2 := bnot_t h2
    exfalso; have h9 := of_decide_eq_false h2; omega
  replace h2 := bnot_f h2
  refine V.skip ?_
  refine VE.then_wp ?_
  refine V.seq ?_
  refine V.region ?_
  refine VL.new1 (.inl rfl) rfl (by decide) (yn_buildSlice rfl Try.underlying24 elt32_Lw rfl (by decide) .nil (by first | (simp; done) | (simp [vv]; done)) rfl rfl) ?_
  intro b17
  refine VL.r (.inl rfl) rfl (by decide) (yr_assign rfl rfl) ?_
  refine VL.nil ?_
  refine VE.then_wp ?_
  refine V.seq ?_
  refine V.seq ?_
  refine V.region ?_
  refine VL.r (.inl rfl) rfl (by decide) (yr_move rfl rfl) ?_
  refine VL.r (.inl rfl) rfl (by decide) (yr_len rfl Try.underlying24 rfl) ?_
  refine VL.r (.inl rfl) rfl (by decide) (yr_move (u := .int .i64 0) rfl rfl) ?_
  refine VL.nil ?_
  refine VE.then_wp ?_
  refine V.block ?_
  refine V.loopc (G := Nat × (Option Addr) × Nat) [(0, _), (1, _), (18, _), (19, _)] (fun ⟨k, ar, cr⟩ => k ≤ m + 1 ∧ (thK L (m + 1) k).length ≤ k) (fun ⟨k, ar, cr⟩ => [⟨ar, vl (thK L (m + 1) k), cr * 3, 32⟩]) (fun ⟨k, ar, cr⟩ => [(6, .slice ar (thK L (m + 1) k).length cr), (20, .int .i64 (k : Int))]) (fun ⟨k, ar, cr⟩ => m + 1 - k) (0, some ⟨b17, 0, none⟩, 0) (.cons rfl (.cons rfl (.cons rfl (.cons rfl .nil)))) (.cons (congrArg (fun n => some (Value.slice _ n _)) (by rw [thK_zero]; rfl)) (.cons rfl .nil)) ?_ ?_ ?_
  · exact (fun w hw => by dsimp only; rw [thK_zero]; exact hw)
  · exact (by exact ⟨Nat.zero_le _, by rw [thK_zero]; exact Nat.le_refl _⟩)
  rintro ⟨k, ar, cr⟩ ⟨hk, hkl⟩
  show V _ _ _ [⟨ar, vl (thK L (m + 1) k), cr * 3, 32⟩] ([(6, .slice ar (thK L (m + 1) k).length cr), (20, .int .i64 (k : Int))] ++ [(0, _), (1, _), (18, _), (19, _)]) _ _
  refine V.seq ?_
  refine V.region ?_
  refine VL.r (.inl rfl) rfl (by decide) (yr_icmp rfl (.inr (.inr (.inl rfl))) rfl rfl) ?_
  refine VL.nil ?_
  refine VE.then_wp ?_
  refine V.seq ?_
  refine V.cond rfl (fun h3 => ?_) (fun h3 => ?_)
  · skip
    replace h3 := ic_lss h3
    refine V.skip ?_
    refine VE.then_wp ?_
    refine V.seq ?_
    refine V.block ?_
    refine V.seq ?_
    refine V.region ?_
    refine VL.r (.inl rfl) rfl (by decide) (yr_move rfl rfl) ?_
    refine VL.q (.inl rfl) rfl (by decide) (yq_idxN (k := k) rfl Try.underlying24 sz32_Lw rfl rfl zz0 zz6 (by exact vl_length _) (by decide) (by omega)) ?_
    refine VL.q (.inl rfl) rfl (by decide) (yq_loadV rfl Try.underlying32 sz32_Lw rfl zz0 (by omega)) ?_
    refine VL.new1 (.inl rfl) rfl (by decide) (yn_alloc rfl zero32_Lw rfl) ?_
    intro b8
    refine VL.r (.inl rfl) rfl (by decide) (yr_assign rfl rfl) ?_
    refine VL.s (.inl rfl) rfl (yc_store rfl sz32_Lw rfl rfl zz3 (.inr ⟨rfl, rfl⟩) rfl zz4 (by decide) rfl) ?_
    rintro ⟨⟩
    refine VL.nil ?_
    refine VE.then_wp ?_
    refine V.seq ?_
    refine V.region ?_
    refine VL.r (.inl rfl) rfl (by decide) (yr_move rfl rfl) ?_
    refine VL.r (.inl rfl) rfl (by decide) (yr_move rfl rfl) ?_
    refine VL.r (.inl rfl) rfl (by decide) (yr_remN k 3 rfl rfl rfl rfl rfl (by omega)) ?_
    refine VL.r (.inl rfl) rfl (by decide) (yr_icmp rfl (.inl rfl) rfl rfl) ?_
    refine VL.r (.inl rfl) rfl (by decide) (yr_move rfl rfl) ?_
    refine VX.split 29 _ rfl (fun h4 => ?_) (fun h4 => ?_)
    · skip
      replace h4 := ic_eql h4
      refine VL.no rfl rfl rfl rfl rfl (by decide) ?_
      refine VL.no rfl rfl rfl rfl rfl (by decide) ?_
      refine VL.no rfl rfl rfl rfl rfl (by decide) ?_
      refine VL.no rfl rfl rfl rfl rfl (by decide) ?_
      refine VL.no rfl rfl rfl rfl rfl (by decide) ?_
      refine VL.r (.inl rfl) rfl (by decide) (yr_pick_t (u := .bool true) rfl rfl rfl) ?_
      refine VL.nil ?_
      refine VE.then_wp ?_
      refine V.condT rfl ?_
      refine V.region ?_
      refine VL.r (.inl rfl) rfl (by decide) (yr_move rfl rfl) ?_
      refine VL.q (.inl rfl) rfl (by decide) (yq_loadS rfl Try.underlying32 sz32_Lw rfl zz0 rfl rfl rfl) ?_
      refine VL.new1 (.inl rfl) rfl (by decide) (yn_buildSlice rfl Try.underlying24 elt32_Lw rfl (by decide) (.cons rfl .nil) (by first | (simp; done) | (simp [vv]; done)) rfl rfl) ?_
      intro b38
      refine VL.c (.inl rfl) rfl (by decide) (yc_appendz 3 rfl rfl Try.underlying24 elt32_Lw rfl rfl zz3 zz0 rfl (by exact vl_length _) rfl (vl_scal _) rfl (by omega) (by omega)) ?_
      rintro ⟨a39, c39⟩
      refine VL.r (.inl rfl) rfl (by decide) (yr_assign rfl rfl) ?_
      refine VL.nil ?_
      refine VE.block_normal ?_
      refine VE.then_wp ?_
      refine V.region ?_
      refine VL.r (.inl rfl) rfl (by decide) (yr_int rfl rfl rfl (.inl ⟨rfl, wrap_in (by omega)⟩)) ?_
      refine VL.r (.inl rfl) rfl (by decide) (yr_move rfl rfl) ?_
      refine VL.nil ?_
      refine VE.round (k + 1, a39, c39) ?_ ?_ ?_ ?_ ?_
      · exact (.cons (congrArg (fun n => some (Value.slice _ n _)) (by first | (rw [thK_yes (by omega), List.length_append]; rfl) | (rw [thK_no (by omega) (by omega)]))) (.cons rfl .nil))
      · exact (.cons rfl (.cons rfl (.cons rfl (.cons rfl .nil))))
      · exact (fun w hw => by
          dsimp only
          rw [thK_yes (by omega), ← vl_snoc]; exact hw.pick (by apply Pick.one; repeat (first | exact Rem.here | apply Rem.there)))
      · exact ⟨by omega, by first | (rw [thK_yes (by omega), List.length_append]; exact Nat.succ_le_succ hkl) | (rw [thK_no (by omega) (by omega)]; omega)⟩
      · (try dsimp only); omega
    replace h4 := ic_eql' h4
    refine VL.r (.inr ⟨_, _, _, rfl, rfl, rfl⟩) rfl (by decide) (yr_move rfl rfl) ?_
    refine VL.r (.inr ⟨_, _, _, rfl, rfl, rfl⟩) rfl (by decide) (yr_move rfl rfl) ?_
    refine VL.r (.inr ⟨_, _, _, rfl, rfl, rfl⟩) rfl (by decide) (yr_len rfl Try.underlying24 rfl) ?_
    refine VL.r (.inr ⟨_, _, _, rfl, rfl, rfl⟩) rfl (by decide) (yr_subN m rfl rfl rfl (by omega) (by omega)) ?_
    refine VL.r (.inr ⟨_, _, _, rfl, rfl, rfl⟩) rfl (by decide) (yr_icmp rfl (.inl rfl) rfl rfl) ?_
    refine VL.r (.inl rfl) rfl (by decide) (yr_pick_f rfl rfl rfl) ?_
    refine VL.nil ?_
    refine VE.then_wp ?_
    refine V.cond rfl (fun h6 => ?_) (fun h6 => ?_)
    · skip
      replace h6 := ic_eql h6
      refine V.region ?_
      refine VL.r (.inl rfl) rfl (by decide) (yr_move rfl rfl) ?_
      refine VL.q (.inl rfl) rfl (by decide) (yq_loadS rfl Try.underlying32 sz32_Lw rfl zz0 rfl rfl rfl) ?_
      refine VL.new1 (.inl rfl) rfl (by decide) (yn_buildSlice rfl Try.underlying24 elt32_Lw rfl (by decide) (.cons rfl .nil) (by first | (simp; done) | (simp [vv]; done)) rfl rfl) ?_
      intro b38
      refine VL.c (.inl rfl) rfl (by decide) (yc_appendz 3 rfl rfl Try.underlying24 elt32_Lw rfl rfl zz3 zz0 rfl (by exact vl_length _) rfl (vl_scal _) rfl (by omega) (by omega)) ?_
      rintro ⟨a39, c39⟩
      refine VL.r (.inl rfl) rfl (by decide) (yr_assign rfl rfl) ?_
      refine VL.nil ?_
      refine VE.block_normal ?_
      refine VE.then_wp ?_
      refine V.region ?_
      refine VL.r (.inl rfl) rfl (by decide) (yr_int rfl rfl rfl (.inl ⟨rfl, wrap_in (by omega)⟩)) ?_
      refine VL.r (.inl rfl) rfl (by decide) (yr_move rfl rfl) ?_
      refine VL.nil ?_
      refine VE.round (k + 1, a39, c39) ?_ ?_ ?_ ?_ ?_
      · exact (.cons (congrArg (fun n => some (Value.slice _ n _)) (by first | (rw [thK_yes (by omega), List.length_append]; rfl) | (rw [thK_no (by omega) (by omega)]))) (.cons rfl .nil))
      · exact (.cons rfl (.cons rfl (.cons rfl (.cons rfl .nil))))
      · exact (fun w hw => by
          dsimp only
          rw [thK_yes (by omega), ← vl_snoc]; exact hw.pick (by apply Pick.one; repeat (first | exact Rem.here | apply Rem.there)))
      · exact ⟨by omega, by first | (rw [thK_yes (by omega), List.length_append]; exact Nat.succ_le_succ hkl) | (rw [thK_no (by omega) (by omega)]; omega)⟩
      · (try dsimp only); omega
    replace h6 := ic_eql' h6
    refine V.skip ?_
    refine VE.block_normal ?_
    refine VE.then_wp ?_
    refine V.region ?_
    refine VL.r (.inl rfl) rfl (by decide) (yr_int rfl rfl rfl (.inl ⟨rfl, wrap_in (by omega)⟩)) ?_
    refine VL.r (.inl rfl) rfl (by decide) (yr_move rfl rfl) ?_
    refine VL.nil ?_
    refine VE.round (k + 1, ar, cr) ?_ ?_ ?_ ?_ ?_
    · exact (.cons (congrArg (fun n => some (Value.slice _ n _)) (by first | (rw [thK_yes (by omega), List.length_append]; rfl) | (rw [thK_no (by omega) (by omega)]))) (.cons rfl .nil))
    · exact (.cons rfl (.cons rfl (.cons rfl (.cons rfl .nil))))
    · exact (fun w hw => by
        dsimp only
        rw [thK_no (by omega) (by omega)]; exact hw.pick (by apply Pick.one; repeat (first | exact Rem.here | apply Rem.there)))
    · exact ⟨by omega, by first | (rw [thK_yes (by omega), List.length_append]; exact Nat.succ_le_succ hkl) | (rw [thK_no (by omega) (by omega)]; omega)⟩
    · (try dsimp only); omega
  replace h3 := ic_lss' h3
  obtain rfl : k = m + 1 := by omega
  refine V.exit ?_
  refine VE.then_exit ?_
  refine VE.then_exit ?_
  refine VE.block_here ?_
  refine VE.then_wp ?_
  refine V.seq ?_
  refine V.region ?_
  refine VL.r (.inl rfl) rfl (by decide) (yr_move rfl rfl) ?_
  refine VL.r (.inl rfl) rfl (by decide) (yr_assign rfl rfl) ?_
  refine VL.r (.inl rfl) rfl (by decide) (yr_assign (u := .bool true) rfl rfl) ?_
  refine VL.nil ?_
  refine VE.then_wp ?_
  refine V.ret ?_
  refine ret2 rfl rfl rfl (by nofun) (by nofun) (fun w1 hw => ?_)
  exact ⟨(ar, cr), rfl, (hw.pick (by apply Pick.one; repeat (first | exact Rem.here | apply Rem.there))).out1⟩
end Go.Proofs.Ytfkblhlkeglilaa

namespace Go.Proofs.Ytfkblhlkeglilaa
open Mt
set_option maxRecDepth 20000
theorem va_0 (b : Int) (h : -8 ≤ b) (g : b ≤ 8) : stc (Int.negSucc 7) b 17 (Int.negSucc 7) = true := by
  rcases (by omega : b = -8 ∨ b = -7 ∨ b = -6 ∨ b = -5 ∨ b = -4 ∨ b = -3 ∨ b = -2 ∨ b = -1 ∨ b = 0 ∨ b = 1 ∨ b = 2 ∨ b = 3 ∨ b = 4 ∨ b = 5 ∨ b = 6 ∨ b = 7 ∨ b = 8) with h | h | h | h | h | h | h | h | h | h | h | h | h | h | h | h | h
  · subst h; exact vs_0_0
  · subst h; exact vs_0_1
  · subst h; exact vs_0_2
  · subst h; exact vs_0_3
  · subst h; exact vs_0_4
  · subst h; exact vs_0_5
  · subst h; exact vs_0_6
  · subst h; exact vs_0_7
  · subst h; exact vs_0_8
  · subst h; exact vs_0_9
  · subst h; exact vs_0_10
  · subst h; exact vs_0_11
  · subst h; exact vs_0_12
  · subst h; exact vs_0_13
  · subst h; exact vs_0_14
  · subst h; exact vs_0_15
  · subst h; exact vs_0_16
theorem va_1 (b : Int) (h : -8 ≤ b) (g : b ≤ 8) : stc (Int.negSucc 6) b 17 (Int.negSucc 7) = true := by
  rcases (by omega : b = -8 ∨ b = -7 ∨ b = -6 ∨ b = -5 ∨ b = -4 ∨ b = -3 ∨ b = -2 ∨ b = -1 ∨ b = 0 ∨ b = 1 ∨ b = 2 ∨ b = 3 ∨ b = 4 ∨ b = 5 ∨ b = 6 ∨ b = 7 ∨ b = 8) with h | h | h | h | h | h | h | h | h | h | h | h | h | h | h | h | h
  · subst h; exact vs_1_0
  · subst h; exact vs_1_1
  · subst h; exact vs_1_2
  · subst h; exact vs_1_3
  · subst h; exact vs_1_4
  · subst h; exact vs_1_5
  · subst h; exact vs_1_6
  · subst h; exact vs_1_7
  · subst h; exact vs_1_8
  · subst h; exact vs_1_9
  · subst h; exact vs_1_10
  · subst h; exact vs_1_11
  · subst h; exact vs_1_12
  · subst h; exact vs_1_13
  · subst h; exact vs_1_14
  · subst h; exact vs_1_15
  · subst h; exact vs_1_16
theorem va_2 (b : Int) (h : -8 ≤ b) (g : b ≤ 8) : stc (Int.negSucc 5) b 17 (Int.negSucc 7) = true := by
  rcases (by omega : b = -8 ∨ b = -7 ∨ b = -6 ∨ b = -5 ∨ b = -4 ∨ b = -3 ∨ b = -2 ∨ b = -1 ∨ b = 0 ∨ b = 1 ∨ b = 2 ∨ b = 3 ∨ b = 4 ∨ b = 5 ∨ b = 6 ∨ b = 7 ∨ b = 8) with h | h | h | h | h | h | h | h | h | h | h | h | h | h | h | h | h
  · subst h; exact vs_2_0
  · subst h; exact vs_2_1
  · subst h; exact vs_2_2
  · subst h; exact vs_2_3
  · subst h; exact vs_2_4
  · subst h; exact vs_2_5
  · subst h; exact vs_2_6
  · subst h; exact vs_2_7
  · subst h; exact vs_2_8
  · subst h; exact vs_2_9
  · subst h; exact vs_2_10
  · subst h; exact vs_2_11
  · subst h; exact vs_2_12
  · subst h; exact vs_2_13
  · subst h; exact vs_2_14
  · subst h; exact vs_2_15
  · subst h; exact vs_2_16
theorem va_3 (b : Int) (h : -8 ≤ b) (g : b ≤ 8) : stc (Int.negSucc 4) b 17 (Int.negSucc 7) = true := by
  rcases (by omega : b = -8 ∨ b = -7 ∨ b = -6 ∨ b = -5 ∨ b = -4 ∨ b = -3 ∨ b = -2 ∨ b = -1 ∨ b = 0 ∨ b = 1 ∨ b = 2 ∨ b = 3 ∨ b = 4 ∨ b = 5 ∨ b = 6 ∨ b = 7 ∨ b = 8) with h | h | h | h | h | h | h | h | h | h | h | h | h | h | h | h | h
  · subst h; exact vs_3_0
  · subst h; exact vs_3_1
  · subst h; exact vs_3_2
  · subst h; exact vs_3_3
  · subst h; exact vs_3_4
  · subst h; exact vs_3_5
  · subst h; exact vs_3_6
  · subst h; exact vs_3_7
  · subst h; exact vs_3_8
  · subst h; exact vs_3_9
  · subst h; exact vs_3_10
  · subst h; exact vs_3_11
  · subst h; exact vs_3_12
  · subst h; exact vs_3_13
  · subst h; exact vs_3_14
  · subst h; exact vs_3_15
  · subst h; exact vs_3_16
theorem va_4 (b : Int) (h : -8 ≤ b) (g : b ≤ 8) : stc (Int.negSucc 3) b 17 (Int.negSucc 7) = true := by
  rcases (by omega : b = -8 ∨ b = -7 ∨ b = -6 ∨ b = -5 ∨ b = -4 ∨ b = -3 ∨ b = -2 ∨ b = -1 ∨ b = 0 ∨ b = 1 ∨ b = 2 ∨ b = 3 ∨ b = 4 ∨ b = 5 ∨ b = 6 ∨ b = 7 ∨ b = 8) with h | h | h | h | h | h | h | h | h | h | h | h | h | h | h | h | h
  · subst h; exact vs_4_0
  · subst h; exact vs_4_1
  · subst h; exact vs_4_2
  · subst h; exact vs_4_3
  · subst h; exact vs_4_4
  · subst h; exact vs_4_5
  · subst h; exact vs_4_6
  · subst h; exact vs_4_7
  · subst h; exact vs_4_8
  · subst h; exact vs_4_9
  · subst h; exact vs_4_10
  · subst h; exact vs_4_11
  · subst h; exact vs_4_12
  · subst h; exact vs_4_13
  · subst h; exact vs_4_14
  · subst h; exact vs_4_15
  · subst h; exact vs_4_16
theorem va_5 (b : Int) (h : -8 ≤ b) (g : b ≤ 8) : stc (Int.negSucc 2) b 17 (Int.negSucc 7) = true := by
  rcases (by omega : b = -8 ∨ b = -7 ∨ b = -6 ∨ b = -5 ∨ b = -4 ∨ b = -3 ∨ b = -2 ∨ b = -1 ∨ b = 0 ∨ b = 1 ∨ b = 2 ∨ b = 3 ∨ b = 4 ∨ b = 5 ∨ b = 6 ∨ b = 7 ∨ b = 8) with h | h | h | h | h | h | h | h | h | h | h | h | h | h | h | h | h
  · subst h; exact vs_5_0
  · subst h; exact vs_5_1
  · subst h; exact vs_5_2
  · subst h; exact vs_5_3
  · subst h; exact vs_5_4
  · subst h; exact vs_5_5
  · subst h; exact vs_5_6
  · subst h; exact vs_5_7
  · subst h; exact vs_5_8
  · subst h; exact vs_5_9
  · subst h; exact vs_5_10
  · subst h; exact vs_5_11
  · subst h; exact vs_5_12
  · subst h; exact vs_5_13
  · subst h; exact vs_5_14
  · subst h; exact vs_5_15
  · subst h; exact vs_5_16
theorem va_6 (b : Int) (h : -8 ≤ b) (g : b ≤ 8) : stc (Int.negSucc 1) b 17 (Int.negSucc 7) = true := by
  rcases (by omega : b = -8 ∨ b = -7 ∨ b = -6 ∨ b = -5 ∨ b = -4 ∨ b = -3 ∨ b = -2 ∨ b = -1 ∨ b = 0 ∨ b = 1 ∨ b = 2 ∨ b = 3 ∨ b = 4 ∨ b = 5 ∨ b = 6 ∨ b = 7 ∨ b = 8) with h | h | h | h | h | h | h | h | h | h | h | h | h | h | h | h | h
  · subst h; exact vs_6_0
  · subst h; exact vs_6_1
  · subst h; exact vs_6_2
  · subst h; exact vs_6_3
  · subst h; exact vs_6_4
  · subst h; exact vs_6_5
  · subst h; exact vs_6_6
  · subst h; exact vs_6_7
  · subst h; exact vs_6_8
  · subst h; exact vs_6_9
  · subst h; exact vs_6_10
  · subst h; exact vs_6_11
  · subst h; exact vs_6_12
  · subst h; exact vs_6_13
  · subst h; exact vs_6_14
  · subst h; exact vs_6_15
  · subst h; exact vs_6_16
theorem va_7 (b : Int) (h : -8 ≤ b) (g : b ≤ 8) : stc (Int.negSucc 0) b 17 (Int.negSucc 7) = true := by
  rcases (by omega : b = -8 ∨ b = -7 ∨ b = -6 ∨ b = -5 ∨ b = -4 ∨ b = -3 ∨ b = -2 ∨ b = -1 ∨ b = 0 ∨ b = 1 ∨ b = 2 ∨ b = 3 ∨ b = 4 ∨ b = 5 ∨ b = 6 ∨ b = 7 ∨ b = 8) with h | h | h | h | h | h | h | h | h | h | h | h | h | h | h | h | h
  · subst h; exact vs_7_0
  · subst h; exact vs_7_1
  · subst h; exact vs_7_2
  · subst h; exact vs_7_3
  · subst h; exact vs_7_4
  · subst h; exact vs_7_5
  · subst h; exact vs_7_6
  · subst h; exact vs_7_7
  · subst h; exact vs_7_8
  · subst h; exact vs_7_9
  · subst h; exact vs_7_10
  · subst h; exact vs_7_11
  · subst h; exact vs_7_12
  · subst h; exact vs_7_13
  · subst h; exact vs_7_14
  · subst h; exact vs_7_15
  · subst h; exact vs_7_16
theorem va_8 (b : Int) (h : -8 ≤ b) (g : b ≤ 8) : stc (Int.ofNat 0) b 17 (Int.negSucc 7) = true := by
  rcases (by omega : b = -8 ∨ b = -7 ∨ b = -6 ∨ b = -5 ∨ b = -4 ∨ b = -3 ∨ b = -2 ∨ b = -1 ∨ b = 0 ∨ b = 1 ∨ b = 2 ∨ b = 3 ∨ b = 4 ∨ b = 5 ∨ b = 6 ∨ b = 7 ∨ b = 8) with h | h | h | h | h | h | h | h | h | h | h | h | h | h | h | h | h
  · subst h; exact vs_8_0
  · subst h; exact vs_8_1
  · subst h; exact vs_8_2
  · subst h; exact vs_8_3
  · subst h; exact vs_8_4
  · subst h; exact vs_8_5
  · subst h; exact vs_8_6
  · subst h; exact vs_8_7
  · subst h; exact vs_8_8
  · subst h; exact vs_8_9
  · subst h; exact vs_8_10
  · subst h; exact vs_8_11
  · subst h; exact vs_8_12
  · subst h; exact vs_8_13
  · subst h; exact vs_8_14
  · subst h; exact vs_8_15
  · subst h; exact vs_8_16
theorem va_9 (b : Int) (h : -8 ≤ b) (g : b ≤ 8) : stc (Int.ofNat 1) b 17 (Int.negSucc 7) = true := by
  rcases (by omega : b = -8 ∨ b = -7 ∨ b = -6 ∨ b = -5 ∨ b = -4 ∨ b = -3 ∨ b = -2 ∨ b = -1 ∨ b = 0 ∨ b = 1 ∨ b = 2 ∨ b = 3 ∨ b = 4 ∨ b = 5 ∨ b = 6 ∨ b = 7 ∨ b = 8) with h | h | h | h | h | h | h | h | h | h | h | h | h | h | h | h | h
  · subst h; exact vs_9_0
  · subst h; exact vs_9_1
  · subst h; exact vs_9_2
  · subst h; exact vs_9_3
  · subst h; exact vs_9_4
  · subst h; exact vs_9_5
  · subst h; exact vs_9_6
  · subst h; exact vs_9_7
  · subst h; exact vs_9_8
  · subst h; exact vs_9_9
  · subst h; exact vs_9_10
  · subst h; exact vs_9_11
  · subst h; exact vs_9_12
  · subst h; exact vs_9_13
  · subst h; exact vs_9_14
  · subst h; exact vs_9_15
  · subst h; exact vs_9_16
theorem va_10 (b : Int) (h : -8 ≤ b) (g : b ≤ 8) : stc (Int.ofNat 2) b 17 (Int.negSucc 7) = true := by
  rcases (by omega : b = -8 ∨ b = -7 ∨ b = -6 ∨ b = -5 ∨ b = -4 ∨ b = -3 ∨ b = -2 ∨ b = -1 ∨ b = 0 ∨ b = 1 ∨ b = 2 ∨ b = 3 ∨ b = 4 ∨ b = 5 ∨ b = 6 ∨ b = 7 ∨ b = 8) with h | h | h | h | h | h | h | h | h | h | h | h | h | h | h | h | h
  · subst h; exact vs_10_0
  · subst h; exact vs_10_1
  · subst h; exact vs_10_2
  · subst h; exact vs_10_3
  · subst h; exact vs_10_4
  · subst h; exact vs_10_5
  · subst h; exact vs_10_6
  · subst h; exact vs_10_7
  · subst h; exact vs_10_8
  · subst h; exact vs_10_9
  · subst h; exact vs_10_10
  · subst h; exact vs_10_11
  · subst h; exact vs_10_12
  · subst h; exact vs_10_13
  · subst h; exact vs_10_14
  · subst h; exact vs_10_15
  · subst h; exact vs_10_16
theorem va_11 (b : Int) (h : -8 ≤ b) (g : b ≤ 8) : stc (Int.ofNat 3) b 17 (Int.negSucc 7) = true := by
  rcases (by omega : b = -8 ∨ b = -7 ∨ b = -6 ∨ b = -5 ∨ b = -4 ∨ b = -3 ∨ b = -2 ∨ b = -1 ∨ b = 0 ∨ b = 1 ∨ b = 2 ∨ b = 3 ∨ b = 4 ∨ b = 5 ∨ b = 6 ∨ b = 7 ∨ b = 8) with h | h | h | h | h | h | h | h | h | h | h | h | h | h | h | h | h
  · subst h; exact vs_11_0
  · subst h; exact vs_11_1
  · subst h; exact vs_11_2
  · subst h; exact vs_11_3
  · subst h; exact vs_11_4
  · subst h; exact vs_11_5
  · subst h; exact vs_11_6
  · subst h; exact vs_11_7
  · subst h; exact vs_11_8
  · subst h; exact vs_11_9
  · subst h; exact vs_11_10
  · subst h; exact vs_11_11
  · subst h; exact vs_11_12
  · subst h; exact vs_11_13
  · subst h; exact vs_11_14
  · subst h; exact vs_11_15
  · subst h; exact vs_11_16
theorem va_12 (b : Int) (h : -8 ≤ b) (g : b ≤ 8) : stc (Int.ofNat 4) b 17 (Int.negSucc 7) = true := by
  rcases (by omega : b = -8 ∨ b = -7 ∨ b = -6 ∨ b = -5 ∨ b = -4 ∨ b = -3 ∨ b = -2 ∨ b = -1 ∨ b = 0 ∨ b = 1 ∨ b = 2 ∨ b = 3 ∨ b = 4 ∨ b = 5 ∨ b = 6 ∨ b = 7 ∨ b = 8) with h | h | h | h | h | h | h | h | h | h | h | h | h | h | h | h | h
  · subst h; exact vs_12_0
  · subst h; exact vs_12_1
  · subst h; exact vs_12_2
  · subst h; exact vs_12_3
  · subst h; exact vs_12_4
  · subst h; exact vs_12_5
  · subst h; exact vs_12_6
  · subst h; exact vs_12_7
  · subst h; exact vs_12_8
  · subst h; exact vs_12_9
  · subst h; exact vs_12_10
  · subst h; exact vs_12_11
  · subst h; exact vs_12_12
  · subst h; exact vs_12_13
  · subst h; exact vs_12_14
  · subst h; exact vs_12_15
  · subst h; exact vs_12_16
theorem va_13 (b : Int) (h : -8 ≤ b) (g : b ≤ 8) : stc (Int.ofNat 5) b 17 (Int.negSucc 7) = true := by
  rcases (by omega : b = -8 ∨ b = -7 ∨ b = -6 ∨ b = -5 ∨ b = -4 ∨ b = -3 ∨ b = -2 ∨ b = -1 ∨ b = 0 ∨ b = 1 ∨ b = 2 ∨ b = 3 ∨ b = 4 ∨ b = 5 ∨ b = 6 ∨ b = 7 ∨ b = 8) with h | h | h | h | h | h | h | h | h | h | h | h | h | h | h | h | h
  · subst h; exact vs_13_0
  · subst h; exact vs_13_1
  · subst h; exact vs_13_2
  · subst h; exact vs_13_3
  · subst h; exact vs_13_4
  · subst h; exact vs_13_5
  · subst h; exact vs_13_6
  · subst h; exact vs_13_7
  · subst h; exact vs_13_8
  · subst h; exact vs_13_9
  · subst h; exact vs_13_10
  · subst h; exact vs_13_11
  · subst h; exact vs_13_12
  · subst h; exact vs_13_13
  · subst h; exact vs_13_14
  · subst h; exact vs_13_15
  · subst h; exact vs_13_16
theorem va_14 (b : Int) (h : -8 ≤ b) (g : b ≤ 8) : stc (Int.ofNat 6) b 17 (Int.negSucc 7) = true := by
  rcases (by omega : b = -8 ∨ b = -7 ∨ b = -6 ∨ b = -5 ∨ b = -4 ∨ b = -3 ∨ b = -2 ∨ b = -1 ∨ b = 0 ∨ b = 1 ∨ b = 2 ∨ b = 3 ∨ b = 4 ∨ b = 5 ∨ b = 6 ∨ b = 7 ∨ b = 8) with h | h | h | h | h | h | h | h | h | h | h | h | h | h | h | h | h
  · subst h; exact vs_14_0
  · subst h; exact vs_14_1
  · subst h; exact vs_14_2
  · subst h; exact vs_14_3
  · subst h; exact vs_14_4
  · subst h; exact vs_14_5
  · subst h; exact vs_14_6
  · subst h; exact vs_14_7
  · subst h; exact vs_14_8
  · subst h; exact vs_14_9
  · subst h; exact vs_14_10
  · subst h; exact vs_14_11
  · subst h; exact vs_14_12
  · subst h; exact vs_14_13
  · subst h; exact vs_14_14
  · subst h; exact vs_14_15
  · subst h; exact vs_14_16
theorem va_15 (b : Int) (h : -8 ≤ b) (g : b ≤ 8) : stc (Int.ofNat 7) b 17 (Int.negSucc 7) = true := by
  rcases (by omega : b = -8 ∨ b = -7 ∨ b = -6 ∨ b = -5 ∨ b = -4 ∨ b = -3 ∨ b = -2 ∨ b = -1 ∨ b = 0 ∨ b = 1 ∨ b = 2 ∨ b = 3 ∨ b = 4 ∨ b = 5 ∨ b = 6 ∨ b = 7 ∨ b = 8) with h | h | h | h | h | h | h | h | h | h | h | h | h | h | h | h | h
  · subst h; exact vs_15_0
  · subst h; exact vs_15_1
  · subst h; exact vs_15_2
  · subst h; exact vs_15_3
  · subst h; exact vs_15_4
  · subst h; exact vs_15_5
  · subst h; exact vs_15_6
  · subst h; exact vs_15_7
  · subst h; exact vs_15_8
  · subst h; exact vs_15_9
  · subst h; exact vs_15_10
  · subst h; exact vs_15_11
  · subst h; exact vs_15_12
  · subst h; exact vs_15_13
  · subst h; exact vs_15_14
  · subst h; exact vs_15_15
  · subst h; exact vs_15_16
theorem va_16 (b : Int) (h : -8 ≤ b) (g : b ≤ 8) : stc (Int.ofNat 8) b 17 (Int.negSucc 7) = true := by
  rcases (by omega : b = -8 ∨ b = -7 ∨ b = -6 ∨ b = -5 ∨ b = -4 ∨ b = -3 ∨ b = -2 ∨ b = -1 ∨ b = 0 ∨ b = 1 ∨ b = 2 ∨ b = 3 ∨ b = 4 ∨ b = 5 ∨ b = 6 ∨ b = 7 ∨ b = 8) with h | h | h | h | h | h | h | h | h | h | h | h | h | h | h | h | h
  · subst h; exact vs_16_0
  · subst h; exact vs_16_1
  · subst h; exact vs_16_2
  · subst h; exact vs_16_3
  · subst h; exact vs_16_4
  · subst h; exact vs_16_5
  · subst h; exact vs_16_6
  · subst h; exact vs_16_7
  · subst h; exact vs_16_8
  · subst h; exact vs_16_9
  · subst h; exact vs_16_10
  · subst h; exact vs_16_11
  · subst h; exact vs_16_12
  · subst h; exact vs_16_13
  · subst h; exact vs_16_14
  · subst h; exact vs_16_15
  · subst h; exact vs_16_16
theorem stc_is {a b : Int} : ∀ {n : Nat} {c : Int}, stc a b n c = true → ∀ j : Nat, j < n → stq a b (c + j) = true
  | 0, _, _, _, hj => absurd hj (by omega)
  | n + 1, c, h, j, hj => by
    have e : stc a b (n + 1) c = and (stq a b c) (forceI (Int.add c (Int.ofNat 1)) (stc a b n)) := rfl
    rw [e, forceI_is] at h
    obtain ⟨h1, h2⟩ := and_is h
    rcases Nat.eq_zero_or_pos j with g | g
    · rw [g]
      have : c + ((0 : Nat) : Int) = c := by omega
      rw [this]; exact h1
    · have k := stc_is h2 (j - 1) (by omega)
      have : Int.add c (Int.ofNat 1) + ((j - 1 : Nat) : Int) = c + (j : Int) := by
        show c + 1 + ((j - 1 : Nat) : Int) = _
        omega
      rw [this] at k
      exact k
theorem st_row {a b : Int} (h : stc a b 17 (Int.negSucc 7) = true) {k : Nat} (hk : k < 17) : stq a b ((k : Int) - 8) = true := by
  have := stc_is h k hk
  have e : Int.negSucc 7 + (k : Int) = (k : Int) - 8 := by
    show (-8 : Int) + (k : Int) = _
    omega
  rw [e] at this
  exact this
theorem start_t : StartT := by
  intro i j k hi hj hk
  have h1 : -8 ≤ (j : Int) - 8 := by omega
  have h2 : (j : Int) - 8 ≤ 8 := by omega
  rcases (by omega : i = 0 ∨ i = 1 ∨ i = 2 ∨ i = 3 ∨ i = 4 ∨ i = 5 ∨ i = 6 ∨ i = 7 ∨ i = 8 ∨ i = 9 ∨ i = 10 ∨ i = 11 ∨ i = 12 ∨ i = 13 ∨ i = 14 ∨ i = 15 ∨ i = 16) with h | h | h | h | h | h | h | h | h | h | h | h | h | h | h | h | h
  · subst h; exact st_row (va_0 _ h1 h2) hk
  · subst h; exact st_row (va_1 _ h1 h2) hk
  · subst h; exact st_row (va_2 _ h1 h2) hk
  · subst h; exact st_row (va_3 _ h1 h2) hk
  · subst h; exact st_row (va_4 _ h1 h2) hk
  · subst h; exact st_row (va_5 _ h1 h2) hk
  · subst h; exact st_row (va_6 _ h1 h2) hk
  · subst h; exact st_row (va_7 _ h1 h2) hk
  · subst h; exact st_row (va_8 _ h1 h2) hk
  · subst h; exact st_row (va_9 _ h1 h2) hk
  · subst h; exact st_row (va_10 _ h1 h2) hk
  · subst h; exact st_row (va_11 _ h1 h2) hk
  · subst h; exact st_row (va_12 _ h1 h2) hk
  · subst h; exact st_row (va_13 _ h1 h2) hk
  · subst h; exact st_row (va_14 _ h1 h2) hk
  · subst h; exact st_row (va_15 _ h1 h2) hk
  · subst h; exact st_row (va_16 _ h1 h2) hk
theorem slab_t : SlabT := by
  intro i j hi hj
  rcases (by omega : i = 0 ∨ i = 1 ∨ i = 2 ∨ i = 3 ∨ i = 4 ∨ i = 5 ∨ i = 6 ∨ i = 7 ∨ i = 8 ∨ i = 9 ∨ i = 10) with h | h | h | h | h | h | h | h | h | h | h
  · subst h
    rcases (by omega : j = 0 ∨ j = 1 ∨ j = 2 ∨ j = 3 ∨ j = 4 ∨ j = 5 ∨ j = 6 ∨ j = 7 ∨ j = 8 ∨ j = 9 ∨ j = 10) with g | g | g | g | g | g | g | g | g | g | g
    · subst g; exact vq_0_0
    · subst g; exact vq_0_1
    · subst g; exact vq_0_2
    · subst g; exact vq_0_3
    · subst g; exact vq_0_4
    · subst g; exact vq_0_5
    · subst g; exact vq_0_6
    · subst g; exact vq_0_7
    · subst g; exact vq_0_8
    · subst g; exact vq_0_9
    · subst g; exact vq_0_10
  · subst h
    rcases (by omega : j = 0 ∨ j = 1 ∨ j = 2 ∨ j = 3 ∨ j = 4 ∨ j = 5 ∨ j = 6 ∨ j = 7 ∨ j = 8 ∨ j = 9 ∨ j = 10) with g | g | g | g | g | g | g | g | g | g | g
    · subst g; exact vq_1_0
    · subst g; exact vq_1_1
    · subst g; exact vq_1_2
    · subst g; exact vq_1_3
    · subst g; exact vq_1_4
    · subst g; exact vq_1_5
    · subst g; exact vq_1_6
    · subst g; exact vq_1_7
    · subst g; exact vq_1_8
    · subst g; exact vq_1_9
    · subst g; exact vq_1_10
  · subst h
    rcases (by omega : j = 0 ∨ j = 1 ∨ j = 2 ∨ j = 3 ∨ j = 4 ∨ j = 5 ∨ j = 6 ∨ j = 7 ∨ j = 8 ∨ j = 9 ∨ j = 10) with g | g | g | g | g | g | g | g | g | g | g
    · subst g; exact vq_2_0
    · subst g; exact vq_2_1
    · subst g; exact vq_2_2
    · subst g; exact vq_2_3
    · subst g; exact vq_2_4
    · subst g; exact vq_2_5
    · subst g; exact vq_2_6
    · subst g; exact vq_2_7
    · subst g; exact vq_2_8
    · subst g; exact vq_2_9
    · subst g; exact vq_2_10
  · subst h
    rcases (by omega : j = 0 ∨ j = 1 ∨ j = 2 ∨ j = 3 ∨ j = 4 ∨ j = 5 ∨ j = 6 ∨ j = 7 ∨ j = 8 ∨ j = 9 ∨ j = 10) with g | g | g | g | g | g | g | g | g | g | g
    · subst g; exact vq_3_0
    · subst g; exact vq_3_1
    · subst g; exact vq_3_2
    · subst g; exact vq_3_3
    · subst g; exact vq_3_4
    · subst g; exact vq_3_5
    · subst g; exact vq_3_6
    · subst g; exact vq_3_7
    · subst g; exact vq_3_8
    · subst g; exact vq_3_9
    · subst g; exact vq_3_10
  · subst h
    rcases (by omega : j = 0 ∨ j = 1 ∨ j = 2 ∨ j = 3 ∨ j = 4 ∨ j = 5 ∨ j = 6 ∨ j = 7 ∨ j = 8 ∨ j = 9 ∨ j = 10) with g | g | g | g | g | g | g | g | g | g | g
    · subst g; exact vq_4_0
    · subst g; exact vq_4_1
    · subst g; exact vq_4_2
    · subst g; exact vq_4_3
    · subst g; exact vq_4_4
    · subst g; exact vq_4_5
    · subst g; exact vq_4_6
    · subst g; exact vq_4_7
    · subst g; exact vq_4_8
    · subst g; exact vq_4_9
    · subst g; exact vq_4_10
  · subst h
    rcases (by omega : j = 0 ∨ j = 1 ∨ j = 2 ∨ j = 3 ∨ j = 4 ∨ j = 5 ∨ j = 6 ∨ j = 7 ∨ j = 8 ∨ j = 9 ∨ j = 10) with g | g | g | g | g | g | g | g | g | g | g
    · subst g; exact vq_5_0
    · subst g; exact vq_5_1
    · subst g; exact vq_5_2
    · subst g; exact vq_5_3
    · subst g; exact vq_5_4
    · subst g; exact vq_5_5
    · subst g; exact vq_5_6
    · subst g; exact vq_5_7
    · subst g; exact vq_5_8
    · subst g; exact vq_5_9
    · subst g; exact vq_5_10
  · subst h
    rcases (by omega : j = 0 ∨ j = 1 ∨ j = 2 ∨ j = 3 ∨ j = 4 ∨ j = 5 ∨ j = 6 ∨ j = 7 ∨ j = 8 ∨ j = 9 ∨ j = 10) with g | g | g | g | g | g | g | g | g | g | g
    · subst g; exact vq_6_0
    · subst g; exact vq_6_1
    · subst g; exact vq_6_2
    · subst g; exact vq_6_3
    · subst g; exact vq_6_4
    · subst g; exact vq_6_5
    · subst g; exact vq_6_6
    · subst g; exact vq_6_7
    · subst g; exact vq_6_8
    · subst g; exact vq_6_9
    · subst g; exact vq_6_10
  · subst h
    rcases (by omega : j = 0 ∨ j = 1 ∨ j = 2 ∨ j = 3 ∨ j = 4 ∨ j = 5 ∨ j = 6 ∨ j = 7 ∨ j = 8 ∨ j = 9 ∨ j = 10) with g | g | g | g | g | g | g | g | g | g | g
    · subst g; exact vq_7_0
    · subst g; exact vq_7_1
    · subst g; exact vq_7_2
    · subst g; exact vq_7_3
    · subst g; exact vq_7_4
    · subst g; exact vq_7_5
    · subst g; exact vq_7_6
    · subst g; exact vq_7_7
    · subst g; exact vq_7_8
    · subst g; exact vq_7_9
    · subst g; exact vq_7_10
  · subst h
    rcases (by omega : j = 0 ∨ j = 1 ∨ j = 2 ∨ j = 3 ∨ j = 4 ∨ j = 5 ∨ j = 6 ∨ j = 7 ∨ j = 8 ∨ j = 9 ∨ j = 10) with g | g | g | g | g | g | g | g | g | g | g
    · subst g; exact vq_8_0
    · subst g; exact vq_8_1
    · subst g; exact vq_8_2
    · subst g; exact vq_8_3
    · subst g; exact vq_8_4
    · subst g; exact vq_8_5
    · subst g; exact vq_8_6
    · subst g; exact vq_8_7
    · subst g; exact vq_8_8
    · subst g; exact vq_8_9
    · subst g; exact vq_8_10
  · subst h
    rcases (by omega : j = 0 ∨ j = 1 ∨ j = 2 ∨ j = 3 ∨ j = 4 ∨ j = 5 ∨ j = 6 ∨ j = 7 ∨ j = 8 ∨ j = 9 ∨ j = 10) with g | g | g | g | g | g | g | g | g | g | g
    · subst g; exact vq_9_0
    · subst g; exact vq_9_1
    · subst g; exact vq_9_2
    · subst g; exact vq_9_3
    · subst g; exact vq_9_4
    · subst g; exact vq_9_5
    · subst g; exact vq_9_6
    · subst g; exact vq_9_7
    · subst g; exact vq_9_8
    · subst g; exact vq_9_9
    · subst g; exact vq_9_10
  · subst h
    rcases (by omega : j = 0 ∨ j = 1 ∨ j = 2 ∨ j = 3 ∨ j = 4 ∨ j = 5 ∨ j = 6 ∨ j = 7 ∨ j = 8 ∨ j = 9 ∨ j = 10) with g | g | g | g | g | g | g | g | g | g | g
    · subst g; exact vq_10_0
    · subst g; exact vq_10_1
    · subst g; exact vq_10_2
    · subst g; exact vq_10_3
    · subst g; exact vq_10_4
    · subst g; exact vq_10_5
    · subst g; exact vq_10_6
    · subst g; exact vq_10_7
    · subst g; exact vq_10_8
    · subst g; exact vq_10_9
    · subst g; exact vq_10_10
end Go.Proofs.Ytfkblhlkeglilaa

namespace Go.Proofs.Ytfkblhlkeglilaa
open Go.RowKit R3 Mt
set_option maxRecDepth 20000
theorem ln_bulk : wbulk (RW (icL 12)) ≤ 1050000 := by
  show 1 + ((RW (icL 12)).take 1 |>.map fun w => w.1.length).sum ≤ 1050000
  have : ((RW (icL 12)).take 1 |>.map fun w => w.1.length).sum = 12 := by
    simp [RW, icL_length]
  omega
theorem ln_wrw {w : World} {a : Option Addr} {c : Nat} {L : List V3} (h : Cl w a (vl L)) : WRws w (fun _ => (a, c)) (RW L) := fun i hi => by
  have : i = 0 := by
    have : i < 1 := hi
    omega
  subst this
  exact h
theorem ln_whd {a : Option Addr} {c : Nat} : whd (fun _ => (a, c)) (RW (icL 12)) = [.slice a 12 c, .bool true, .float .f32 1065353216] := rfl
def llW (P : V3) (st n : Nat) : Nat := llS (lnQ P st n) n
def nbW (P : V3) (st n : Nat) : Nat := long3 (sub3 (lnK P st n) P)
def bdW (P : V3) (st n : Nat) : Nat := (bdK (lnQ P st n) (n - 1)).1
def thQ (P : V3) (st n : Nat) : List V3 := thK (lnQ P st n) (n + 1) (n + 1)
theorem two_get (a b : V3) : [a, b].getD 1 z3 = b := rfl
section
variable {P : V3} {st n : Nat}
theorem thQ_len : 1 ≤ (thQ P st n).length ∧ (thQ P st n).length ≤ n + 1 := (thK_facts (lnQ P st n) (n + 1) n).2
theorem thQ_0 (F : LnF P st n) : (thQ P st n).getD 0 z3 = P := by
  have h := (thK_facts (lnQ P st n) (n + 1) n).1
  rw [F.get 0 (Nat.zero_le _), F.k0] at h
  exact h
theorem thQ_last (F : LnF P st n) : (thQ P st n).getD ((thQ P st n).length - 1) z3 = lnK P st n := by
  have h := thK_last (lnQ P st n) n
  rw [F.get n (Nat.le_refl _)] at h
  exact h
theorem fin3_nan {v : V3} (h : fin3 v = true) : fnan .f32 v.1 = false ∧ fnan .f32 v.2.1 = false ∧ fnan .f32 v.2.2 = false := by
  unfold fin3 at h
  simp only [Bool.and_eq_true] at h
  exact ⟨fin_nan h.1.1, fin_nan h.1.2, fin_nan h.2⟩
theorem ln_get0 (F : LnF P st n) : (lnQ P st n).getD 0 z3 = P := by rw [F.get 0 (Nat.zero_le _), F.k0]
theorem ln_lg (F : LnF P st n) : GapF (up (llW P st n)) (fop .mul .f64 (up st) (FloatKind.f64.nearest (n : Int))) := F.lg
theorem ln_ng2 (F : LnF P st n) : GapF (up (nbW P st n)) (up (long3 (sub3 ((lnQ P st n).getD n z3) P))) := by
  rw [F.get n (Nat.le_refl _)]; exact F.ng
theorem ln_bg (F : LnF P st n) : fcmp .gtr .f64 (up (bdW P st n)) 4607186922399644778 = false := F.bg
end
theorem ln_all {x y z s n : Nat} (hx : x < 17) (hy : y < 17) (hz : z < 17) (hs : s < 8) (hn : n < 8) : LnF (sP x y z) (stw s) n := ln_facts start_t slab_t hx hy hz hs hn
end Go.Proofs.Ytfkblhlkeglilaa

namespace Go.Proofs.Ytfkblhlkeglilaa
open Go.RowKit
namespace Dr
variable {P : Program} {n : Nat} {w0 : World} {O : List Ent} {E : Env}
/-- As pairsOk, but what may change places is looked at first. -/
def pairsOkS (ops : Array Oper) : List (Nat × Kd) → Bool
  | [] => true
  | (i, k) :: π => (π.all fun (j, kj) => match ops[i]?, ops[j]? with
    | some p, some q => swapOk ops k kj p q || Go.Proofs.Ytfkblhlkeglilaa.pairsOk.reach ops j i
    | _, _ => false) && pairsOkS ops π
theorem pairs_of (ops : Array Oper) : ∀ π : List (Nat × Kd), pairsOkS ops π = true → pairsOk ops π = true
  | [], _ => rfl
  | (i, k) :: π, h => by
    simp only [pairsOkS, pairsOk, Bool.and_eq_true, List.all_eq_true] at h ⊢
    refine ⟨fun x hx => ?_, pairs_of ops π h.2⟩
    have h1 := h.1 x hx
    obtain ⟨j, kj⟩ := x
    dsimp only at h1 ⊢
    revert h1
    cases ops[i]? with
    | none => exact fun h => h
    | some p =>
      cases ops[j]? with
      | none => exact fun h => h
      | some q =>
        intro h
        show (Go.Proofs.Ytfkblhlkeglilaa.pairsOk.reach ops j i || swapOk ops k kj p q) = true
        rw [Bool.or_comm]; exact h
theorem V.drawS {id : Nat} {l : List Oper} {Q : Exit → Act → World → Prop} (π : List (Nat × Kd)) (T : Tab) (S R : List Ent) (hm : P.follows .mixedOrders = true) (hok : (permOk l.length π && pairsOkS l.toArray π && backOk l.toArray) = true) (hO : ∀ w, Hp w0 O w → Hp w0 (S ++ R) w)
    (h : SW P n w0 l.toArray T (fun E S R => VE n w0 (S ++ R) E Q .normal) π E S R) : V P n w0 O E (.region id l.toArray true) Q := by
  refine V.drawR π T S R hm ?_ hO h
  rw [Bool.and_eq_true, Bool.and_eq_true] at hok ⊢
  exact ⟨⟨hok.1.1, pairs_of _ _ hok.1.2⟩, hok.2⟩
end Dr
end Go.Proofs.Ytfkblhlkeglilaa

namespace Go.Proofs.Ytfkblhlkeglilaa
open Go.RowKit
set_option linter.unusedVariables false
set_option linter.unusedSimpArgs false
set_option maxRecDepth 20000
theorem known4_Lx : Known Try.prog 4 := Known.mk' Try.func4 (by kernel_rfl)
theorem known5_Lx : Known Try.prog 5 := Known.mk' Try.func5 (by kernel_rfl)
theorem zero27_Lx : (Try.prog.info? 27).bind (·.zero) = some (Value.agg #[Value.slice none 0 0, Value.bool false, Value.float .f32 0]) := by kernel_rfl
theorem sz27_Lx : (Try.prog.info? 27).map (·.size) = some 3 := by kernel_rfl
theorem elt27_Lx : Elt Try.prog 27 [Value.slice none 0 0, Value.bool false, Value.float .f32 0] 32 := Elt.mk' (by kernel_rfl) (by decide)
theorem known6_Lx : Known Try.prog 6 := Known.mk' Try.func6 (by kernel_rfl)
theorem zero32_Lx : (Try.prog.info? 32).bind (·.zero) = some (Value.agg #[Value.float .f32 0, Value.float .f32 0, Value.float .f32 0]) := by kernel_rfl
theorem sz32_Lx : (Try.prog.info? 32).map (·.size) = some 3 := by kernel_rfl
theorem sz25_Lx : (Try.prog.info? 25).map (·.size) = some 1 := by kernel_rfl
theorem fb25_Lx : flatB Try.prog 25 = true := by kernel_rfl
theorem known7_Lx : Known Try.prog 7 := Known.mk' Try.func7 (by kernel_rfl)
theorem known8_Lx : Known Try.prog 8 := Known.mk' Try.func8 (by kernel_rfl)
theorem known9_Lx : Known Try.prog 9 := Known.mk' Try.func9 (by kernel_rfl)
theorem known10_Lx : Known Try.prog 10 := Known.mk' Try.func10 (by kernel_rfl)
theorem known11_Lx : Known Try.prog 11 := Known.mk' Try.func11 (by kernel_rfl)
theorem known12_Lx : Known Try.prog 12 := Known.mk' Try.func12 (by kernel_rfl)
theorem mixed_Lx : Try.prog.follows .mixedOrders = true := by kernel_rfl
theorem veq32_Lx : VEqB Try.prog 32 = true := by kernel_rfl
theorem known14_Lx : Known Try.prog 14 := Known.mk' Try.func14 (by kernel_rfl)
theorem known13_Lx : Known Try.prog 13 := Known.mk' Try.func13 (by kernel_rfl)
theorem known15_Lx : Known Try.prog 15 := Known.mk' Try.func15 (by kernel_rfl)
theorem known16_Lx : Known Try.prog 16 := Known.mk' Try.func16 (by kernel_rfl)
theorem known17_Lx : Known Try.prog 17 := Known.mk' Try.func17 (by kernel_rfl)
attribute [local irreducible] fop fcmp fconv fneg fabs List.getD qw lzX stw lnQ lnK fnP llW nbW bdW thQ long3 sub3 gap64
theorem c_flE {w : World} {a : Option Addr} {c : Nat} {f : Nat → Option Addr × Nat} {P : V3} {st n : Nat} (F : LnF P st n) (hA : Cl w a (whd f (RW (icL 12)))) (hR : WRws w f (RW (icL 12))) : New Try.prog 8 [.slice a 1 c, vv P, .float .f32 st, .int .i64 (n : Int)] w (fun p : Option Addr × Nat => .tuple #[.slice p.1 (n + 1) p.2, .bool true]) (fun p => [⟨p.1, vl (lnQ P st n), p.2 * 3, 32⟩]) := by
  have h := c_implFL (c := c) (p1 := P.1) (p2 := P.2.1) (p3 := P.2.2) (st := st) (rn := (n : Int)) hA hR ln_bulk
  have e1 : flineV (RW (icL 12)) (P.1, P.2.1, P.2.2) st (n : Int) = lnQ P st n := F.fl.2
  have e2 : flineOk (RW (icL 12)) (P.1, P.2.1, P.2.2) st (n : Int) = true := F.fl.1
  rw [e1, e2, F.len] at h
  exact h
theorem c_slE {w : World} {a : Option Addr} {c : Nat} {f : Nat → Option Addr × Nat} {P : V3} {st n : Nat} (F : LnF P st n) {i : Nat} {q : V3} (hq : q = lnK P st i) (hi : i < 7) (hA : Cl w a (whd f (RW (icL 12)))) (hR : WRws w f (RW (icL 12))) : Pure Try.prog 9 [.slice a 1 c, vv q, .float .f32 st] w (.tuple #[vv (lnK P st (i + 1)), .bool true]) := by
  have h := c_implStepL (c := c) (p1 := q.1) (p2 := q.2.1) (p3 := q.2.2) (st := st) hA hR ln_bulk
  have e1 : slV (RW (icL 12)) (q.1, q.2.1, q.2.2) st = lnK P st (i + 1) := by
    rw [hq]; exact (F.sl i hi).2
  have e2 : slOk (RW (icL 12)) (q.1, q.2.1, q.2.2) st = true := by
    rw [hq]; exact (F.sl i hi).1
  rw [e1, e2] at h
  exact h
theorem c_fsE {w : World} {a : Option Addr} {c : Nat} {f : Nat → Option Addr × Nat} {P : V3} {st n : Nat} (F : LnF P st n) (hA : Cl w a (whd f (RW (icL 12)))) (hR : WRws w f (RW (icL 12))) : Pure Try.prog 10 [.slice a 1 c, vv P, .float .f32 st, .float .f32 1056964608] w (.tuple #[vv (fnP P st), .int .i64 1, .bool true]) := by
  have h := c_implFineS (c := c) (p1 := P.1) (p2 := P.2.1) (p3 := P.2.2) (st := st) (near := 1056964608) hA hR ln_bulk
  have e1 : fsV (RW (icL 12)) (P.1, P.2.1, P.2.2) st 1056964608 = fnP P st := F.fs.2.2
  have e2 : fsN (RW (icL 12)) (P.1, P.2.1, P.2.2) st 1056964608 = 1 := F.fs.2.1
  have e3 : fsB (RW (icL 12)) (P.1, P.2.1, P.2.2) st 1056964608 = true := F.fs.1
  rw [e1, e2, e3] at h
  exact h
theorem c_fiE {w : World} {a : Option Addr} {c : Nat} {f : Nat → Option Addr × Nat} {P : V3} {st n : Nat} (F : LnF P st n) (hA : Cl w a (whd f (RW (icL 12)))) (hR : WRws w f (RW (icL 12))) : New Try.prog 11 [.slice a 1 c, vv P, .float .f32 st, .float .f32 1056964608, .int .i64 1] w (fun p : Option Addr × Nat => .tuple #[.slice p.1 2 p.2, .int .i64 1, .bool true]) (fun p => [⟨p.1, vl [P, fnP P st], p.2 * 3, 32⟩]) := by
  have h := c_implFiL (c := c) (p1 := P.1) (p2 := P.2.1) (p3 := P.2.2) (st := st) (near := 1056964608) (rn := 1) hA hR ln_bulk
  have e1 : fiV (RW (icL 12)) (P.1, P.2.1, P.2.2) st 1056964608 1 = [P, fnP P st] := F.fi.2.1
  have e2 : fiS (RW (icL 12)) (P.1, P.2.1, P.2.2) st 1056964608 1 = 1 := F.fi.2.2
  have e3 : fiOk (RW (icL 12)) (P.1, P.2.1, P.2.2) st 1056964608 1 = true := F.fi.1
  rw [e1, e2, e3] at h
  exact h
theorem c_llE {w : World} {a : Option Addr} {c : Nat} {P : V3} {st n : Nat} (F : LnF P st n) (hn : n < 8) (hA : Cl w a (vl (lnQ P st n))) : Pure Try.prog 12 [.slice a (n + 1) c] w (.tuple #[.float .f32 (llW P st n), .bool true]) := by
  have h := c_lineLen (c := c) (m := n) hA F.len (by omega) F.ll
  rw [F.len] at h
  unfold llW
  exact h
theorem c_nbE {w : World} {a : Option Addr} {c : Nat} {P : V3} {st n : Nat} (F : LnF P st n) (hn : n < 8) (hA : Cl w a (vl (lnQ P st n))) : Pure Try.prog 15 [.slice a (n + 1) c, .int .i64 (n : Int)] w (.tuple #[.int .i64 (n : Int), .float .f32 (nbW P st n), .bool true]) := by
  have e : (lnQ P st n).getD n z3 = lnK P st n := F.get n (Nat.le_refl _)
  have h := c_nearB (c := c) (m := n) hA F.len (by omega) (by rw [e, ln_get0 F]; exact F.nd)
  rw [F.len, e, ln_get0 F] at h
  unfold nbW
  exact h
theorem c_bdE {w : World} {a : Option Addr} {c : Nat} {P : V3} {st n : Nat} (F : LnF P st n) (hn : n < 8) (hA : Cl w a (vl (lnQ P st n))) : Pure Try.prog 16 [.slice a (n + 1) c] w (.tuple #[.float .f32 (bdW P st n), .bool true]) := by
  have h := c_bend (c := c) (m := n) hA F.len (by omega) F.bf
  rw [F.len] at h
  unfold bdW
  exact h
theorem c_thE {w : World} {a : Option Addr} {c : Nat} {P : V3} {st n : Nat} (F : LnF P st n) (hn : n < 8) (hA : Cl w a (vl (lnQ P st n))) : New Try.prog 17 [.slice a (n + 1) c, .int .i64 3] w (fun p : Option Addr × Nat => .tuple #[.slice p.1 (thQ P st n).length p.2, .bool true]) (fun p => [⟨p.1, vl (thQ P st n), p.2 * 3, 32⟩]) := by
  have h := c_thin (c := c) (m := n) hA F.len (by omega)
  rw [F.len] at h
  unfold thQ
  exact h
theorem c_apE {w : World} (p q : V3) : Pure Try.prog 14 [vv p, vv q] w (.float .f64 (up (long3 (sub3 p q)))) :=
  c_r8Apart (x1 := p.1) (x2 := p.2.1) (x3 := p.2.2) (y1 := q.1) (y2 := q.2.1) (y3 := q.2.2)
theorem law_Lines {w : World} {a b : Option Addr} {c d : Nat} {bs cs : List Int} (hA : Cl w a (bl bs)) (hB : Cl w b (bl cs)) (hb : Bytes bs) (hcb : Bytes cs) : Pure Try.prog 3 [.slice a bs.length c, .slice b cs.length d] w (.bool true) := by
  refine Pure.enter Try.func3 rfl Try.ntmps3 (Nat.le_of_ble_eq_true rfl) ?_
  refine V.seq ?_
  refine V.region ?_
  refine VL.r (.inl rfl) rfl (by decide) (yr_assign (u := .bool false) rfl rfl) ?_
  refine VL.nil ?_
  refine VE.then_wp ?_
  refine V.seq ?_
  refine V.seq ?_
  refine V.region ?_
  refine VL.r (.inl rfl) rfl (by decide) (yr_move rfl rfl) ?_
  refine VL.r (.inl rfl) rfl (by decide) (yr_move rfl rfl) ?_
  refine VL.q (.inl rfl) rfl (by decide) (yq_callf rfl known4_Lx (.cons rfl (.cons rfl .nil)) (fun w hw => c_r8LongL)) ?_
  refine VL.nil ?_
  refine VE.then_wp ?_
  refine V.cond rfl (fun h1 => ?_) (fun h1 => ?_)
  · skip
    refine V.seq ?_
    refine V.region ?_
    refine VL.r (.inl rfl) rfl (by decide) (yr_assign (u := .bool true) rfl rfl) ?_
    refine VL.nil ?_
    refine VE.then_wp ?_
    refine V.ret ?_
    refine VE.then_ret ?_
    refine ret1 rfl rfl (fun w1 hw => ?_)
    exact ⟨rfl, hw.below⟩
  rw [Bool.or_eq_false_iff, decide_eq_false_iff_not, decide_eq_false_iff_not] at h1
  have hl1 := h1.1
  have hl2 := h1.2
  refine V.skip ?_
  refine VE.then_wp ?_
  refine V.seq ?_
  refine V.region ?_
  refine VL.new (.inl rfl) rfl (by decide) (yn_callf rfl known5_Lx (.cons rfl (.cons rfl (.cons rfl (.cons rfl .nil)))) (fun w hw => c_ring12)) ?_
  rintro ⟨a37, c37⟩
  refine VL.r (.inl rfl) rfl (by decide) (yr_move rfl rfl) ?_
  refine VL.r (.inl rfl) rfl (by decide) (yr_extract rfl rfl rfl (by nofun)) ?_
  refine VL.r (.inl rfl) rfl (by decide) (yr_extract rfl rfl rfl (by nofun)) ?_
  refine VL.new1 (.inl rfl) rfl (by decide) (yn_alloc rfl zero27_Lx rfl) ?_
  intro b5
  refine VL.s (.inl rfl) rfl (yc_store rfl sz27_Lx rfl rfl zz3 (.inr ⟨rfl, rfl⟩) rfl zz4 (by decide) rfl) ?_
  rintro ⟨⟩
  refine VL.r (.inl rfl) rfl (by decide) (yr_assign rfl rfl) ?_
  refine VL.nil ?_
  refine VE.then_wp ?_
  refine V.seq ?_
  refine V.region ?_
  refine VL.q (.inl rfl) rfl (by decide) (yq_loadS rfl Try.underlying27 sz27_Lx rfl zz0 rfl rfl rfl) ?_
  refine VL.new1 (.inl rfl) rfl (by decide) (yn_buildSlice rfl Try.underlying30 elt27_Lx rfl (by decide) (.cons rfl .nil) (by first | (simp; done) | (simp [vv]; done)) rfl rfl) ?_
  intro b41
  refine VL.r (.inl rfl) rfl (by decide) (yr_assign rfl rfl) ?_
  refine VL.nil ?_
  refine VE.then_wp ?_
  refine V.seq ?_
  refine V.region ?_
  refine VL.r (.inl rfl) rfl (by decide) (yr_move rfl rfl) ?_
  refine VL.new (.inl rfl) rfl (by decide) (yn_callf rfl known6_Lx (.cons rfl (.cons rfl .nil)) (fun w hw => (c_r8VecL zz2 hcb (by omega)))) ?_
  rintro ⟨⟨f43, g43, h43⟩, hf43, hg43, hh43⟩
  refine VL.new1 (.inl rfl) rfl (by decide) (yn_alloc rfl zero32_Lx rfl) ?_
  intro b8
  refine VL.s (.inl rfl) rfl (yc_store rfl sz32_Lx rfl rfl zz3 (.inr ⟨rfl, rfl⟩) rfl zz4 (by decide) rfl) ?_
  rintro ⟨⟩
  refine VL.nil ?_
  refine VE.then_wp ?_
  refine V.seq ?_
  refine V.region ?_
  refine VL.r (.inl rfl) rfl (by decide) (yr_fieldAddr rfl Try.underlying32 rfl rfl sz25_Lx (by decide) rfl) ?_
  refine VL.q (.inl rfl) rfl (by decide) (yq_load rfl fb25_Lx rfl zz0 rfl) ?_
  refine VL.r (.inl rfl) rfl (by decide) (show YR _ _ _ (.float .f32 (lzX f43)) from (by unfold lzX; exact yr_float rfl (.inl rfl) rfl rfl)) ?_
  refine VL.r (.inl rfl) rfl (by decide) (yr_fieldAddr rfl Try.underlying32 rfl rfl sz25_Lx (by decide) rfl) ?_
  refine VL.s (.inl rfl) rfl (yc_store rfl sz25_Lx rfl rfl zz3 (.inl ⟨rfl, rfl⟩) rfl zz4 (by decide) rfl) ?_
  rintro ⟨⟩
  refine VL.nil ?_
  refine VE.then_wp ?_
  refine V.seq ?_
  refine V.region ?_
  refine VL.r (.inl rfl) rfl (by decide) (yr_move rfl rfl) ?_
  refine VL.new (.inl rfl) rfl (by decide) (yn_callf rfl known7_Lx (.cons rfl (.cons rfl (.cons rfl .nil))) (fun w hw => (c_r8AtL (k := 3) (m := 8) zz2 hcb (by omega) (by decide)))) ?_
  rintro ⟨x49, hx49⟩
  refine VL.r (.inl rfl) rfl (by decide) (yr_addN (1 + x49) rfl rfl rfl (by push_cast; rfl) (by omega)) ?_
  refine VL.r (.inl rfl) rfl (by decide) (yr_ofInt rfl Try.underlying2 Try.underlying25 rfl) ?_
  refine VL.r (.inl rfl) rfl (by decide) (show YR _ _ _ (.float .f32 (stw x49)) from (by unfold stw; exact yr_float rfl (.inr (.inr (.inr rfl))) rfl rfl)) ?_
  refine VL.r (.inl rfl) rfl (by decide) (yr_assign rfl rfl) ?_
  refine VL.nil ?_
  refine VE.then_wp ?_
  refine V.seq ?_
  refine V.region ?_
  refine VL.r (.inl rfl) rfl (by decide) (yr_move rfl rfl) ?_
  refine VL.new (.inl rfl) rfl (by decide) (yn_callf rfl known7_Lx (.cons rfl (.cons rfl (.cons rfl .nil))) (fun w hw => (c_r8AtL (k := 4) (m := 8) zz2 hcb (by omega) (by decide)))) ?_
  rintro ⟨x54, hx54⟩
  refine VL.r (.inl rfl) rfl (by decide) (yr_assign rfl rfl) ?_
  refine VL.nil ?_
  refine VE.then_wp ?_
  refine V.seq ?_
  refine V.region ?_
  refine VL.r (.inl rfl) rfl (by decide) (yr_move rfl rfl) ?_
  refine VL.q (.inl rfl) rfl (by decide) (yq_loadS rfl Try.underlying32 sz32_Lx rfl zz0 rfl rfl rfl) ?_
  refine VL.r (.inl rfl) rfl (by decide) (yr_move rfl rfl) ?_
  refine VL.r (.inl rfl) rfl (by decide) (yr_move rfl rfl) ?_
  refine VL.new1 (.inl rfl) rfl (by decide) (yn_callf rfl known8_Lx (.cons rfl (.cons rfl (.cons rfl (.cons rfl .nil)))) (fun w hw => (c_flE (P := (sP f43 g43 h43)) (ln_all hf43 hg43 hh43 hx49 hx54) (show Cl _ _ (whd (fun _ => (a37, c37)) (RW (icL 12))) from by rw [ln_whd]; exact zz2) (ln_wrw (L := icL 12) zz2)))) ?_
  rintro ⟨a60, c60⟩
  refine VL.r (.inl rfl) rfl (by decide) (yr_move rfl rfl) ?_
  refine VL.r (.inl rfl) rfl (by decide) (yr_extract rfl rfl rfl (by nofun)) ?_
  refine VL.r (.inl rfl) rfl (by decide) (yr_extract rfl rfl rfl (by nofun)) ?_
  refine VL.r (.inl rfl) rfl (by decide) (yr_assign rfl rfl) ?_
  refine VL.r (.inl rfl) rfl (by decide) (yr_assign rfl rfl) ?_
  refine VL.nil ?_
  refine VE.then_wp ?_
  refine V.seq ?_
  refine V.region ?_
  refine VL.r (.inl rfl) rfl (by decide) (yr_move rfl rfl) ?_
  refine VL.q (.inl rfl) rfl (by decide) (yq_loadS rfl Try.underlying32 sz32_Lx rfl zz0 rfl rfl rfl) ?_
  refine VL.r (.inl rfl) rfl (by decide) (yr_move rfl rfl) ?_
  refine VL.q (.inl rfl) rfl (by decide) (yq_callf rfl known9_Lx (.cons rfl (.cons rfl (.cons rfl .nil))) (fun w hw => (c_slE (P := (sP f43 g43 h43)) (i := 0) (ln_all hf43 hg43 hh43 hx49 hx54) (q := (sP f43 g43 h43)) (ln_all hf43 hg43 hh43 hx49 hx54).k0.symm (by decide) (show Cl _ _ (whd (fun _ => (a37, c37)) (RW (icL 12))) from by rw [ln_whd]; exact zz2) (ln_wrw (L := icL 12) zz2)))) ?_
  refine VL.r (.inl rfl) rfl (by decide) (yr_move rfl rfl) ?_
  refine VL.r (.inl rfl) rfl (by decide) (yr_extract rfl rfl rfl (by nofun)) ?_
  refine VL.r (.inl rfl) rfl (by decide) (yr_extract rfl rfl rfl (by nofun)) ?_
  refine VL.new1 (.inl rfl) rfl (by decide) (yn_alloc rfl zero32_Lx rfl) ?_
  intro b13
  refine VL.s (.inl rfl) rfl (yc_store rfl sz32_Lx rfl rfl zz3 (.inr ⟨rfl, rfl⟩) rfl zz4 (by decide) rfl) ?_
  rintro ⟨⟩
  refine VL.r (.inl rfl) rfl (by decide) (yr_assign rfl rfl) ?_
  refine VL.nil ?_
  refine VE.then_wp ?_
  refine V.seq ?_
  refine V.region ?_
  refine VL.r (.inl rfl) rfl (by decide) (yr_move rfl rfl) ?_
  refine VL.q (.inl rfl) rfl (by decide) (yq_loadS rfl Try.underlying32 sz32_Lx rfl zz0 rfl rfl rfl) ?_
  refine VL.r (.inl rfl) rfl (by decide) (yr_move rfl rfl) ?_
  refine VL.q (.inl rfl) rfl (by decide) (yq_callf rfl known10_Lx (.cons rfl (.cons rfl (.cons rfl (.cons rfl .nil)))) (fun w hw => (c_fsE (P := (sP f43 g43 h43)) (ln_all hf43 hg43 hh43 hx49 hx54) (show Cl _ _ (whd (fun _ => (a37, c37)) (RW (icL 12))) from by rw [ln_whd]; exact zz2) (ln_wrw (L := icL 12) zz2)))) ?_
  refine VL.r (.inl rfl) rfl (by decide) (yr_move rfl rfl) ?_
  refine VL.r (.inl rfl) rfl (by decide) (yr_extract rfl rfl rfl (by nofun)) ?_
  refine VL.r (.inl rfl) rfl (by decide) (yr_extract rfl rfl rfl (by nofun)) ?_
  refine VL.r (.inl rfl) rfl (by decide) (yr_extract rfl rfl rfl (by nofun)) ?_
  refine VL.new1 (.inl rfl) rfl (by decide) (yn_alloc rfl zero32_Lx rfl) ?_
  intro b15
  refine VL.s (.inl rfl) rfl (yc_store rfl sz32_Lx rfl rfl zz3 (.inr ⟨rfl, rfl⟩) rfl zz4 (by decide) rfl) ?_
  rintro ⟨⟩
  refine VL.r (.inl rfl) rfl (by decide) (yr_assign rfl rfl) ?_
  refine VL.r (.inl rfl) rfl (by decide) (yr_assign rfl rfl) ?_
  refine VL.nil ?_
  refine VE.then_wp ?_
  refine V.seq ?_
  refine V.region ?_
  refine VL.r (.inl rfl) rfl (by decide) (yr_move rfl rfl) ?_
  refine VL.q (.inl rfl) rfl (by decide) (yq_loadS rfl Try.underlying32 sz32_Lx rfl zz0 rfl rfl rfl) ?_
  refine VL.r (.inl rfl) rfl (by decide) (yr_move rfl rfl) ?_
  refine VL.new1 (.inl rfl) rfl (by decide) (yn_callf rfl known11_Lx (.cons rfl (.cons rfl (.cons rfl (.cons rfl (.cons rfl .nil))))) (fun w hw => (c_fiE (P := (sP f43 g43 h43)) (ln_all hf43 hg43 hh43 hx49 hx54) (show Cl _ _ (whd (fun _ => (a37, c37)) (RW (icL 12))) from by rw [ln_whd]; exact zz2) (ln_wrw (L := icL 12) zz2)))) ?_
  rintro ⟨a82, c82⟩
  refine VL.r (.inl rfl) rfl (by decide) (yr_move rfl rfl) ?_
  refine VL.r (.inl rfl) rfl (by decide) (yr_extract rfl rfl rfl (by nofun)) ?_
  refine VL.r (.inl rfl) rfl (by decide) (yr_extract rfl rfl rfl (by nofun)) ?_
  refine VL.r (.inl rfl) rfl (by decide) (yr_extract rfl rfl rfl (by nofun)) ?_
  refine VL.r (.inl rfl) rfl (by decide) (yr_assign rfl rfl) ?_
  refine VL.r (.inl rfl) rfl (by decide) (yr_assign rfl rfl) ?_
  refine VL.r (.inl rfl) rfl (by decide) (yr_assign rfl rfl) ?_
  refine VL.nil ?_
  refine VE.then_wp ?_
  refine V.seq ?_
  refine V.region ?_
  refine VL.r (.inl rfl) rfl (by decide) (yr_move rfl rfl) ?_
  refine VL.q (.inl rfl) rfl (by decide) (yq_callf rfl known12_Lx (.cons rfl .nil) (fun w hw => (c_llE (ln_all hf43 hg43 hh43 hx49 hx54) hx54 zz2))) ?_
  refine VL.r (.inl rfl) rfl (by decide) (yr_move rfl rfl) ?_
  refine VL.r (.inl rfl) rfl (by decide) (yr_extract rfl rfl rfl (by nofun)) ?_
  refine VL.r (.inl rfl) rfl (by decide) (yr_extract rfl rfl rfl (by nofun)) ?_
  refine VL.r (.inl rfl) rfl (by decide) (yr_assign rfl rfl) ?_
  refine VL.r (.inl rfl) rfl (by decide) (yr_assign rfl rfl) ?_
  refine VL.nil ?_
  refine VE.then_wp ?_
  refine V.seq ?_
  refine V.seq ?_
  refine Dr.V.drawS [(0, 5), (1, 5), (2, 5), (3, 5), (4, 5), (5, 5), (6, 5), (7, 5), (8, 5), (9, 5), (10, 5), (11, 5), (12, 5), (13, 5), (14, 5), (15, 5), (16, 5), (17, 5), (18, 5), (19, 5), (20, 5), (21, 5), (22, 5), (23, 5), (24, 5), (25, 5), (26, 5), (27, 5), (28, 5), (29, 5), (30, 5), (31, 5), (32, 5), (33, 5), (34, 5), (35, 5), (36, 5), (37, 5), (38, 5), (39, 5), (40, 5), (41, 5), (42, 5), (43, 5), (44, 5), (45, 5), (46, 5), (47, 5), (48, 5), (49, 5), (50, 5), (51, 5), (52, 5), (53, 5), (54, 5), (55, 5)] [] [] _ mixed_Lx (by kernel_rfl) (fun w hw => hw) ?_
  refine Dr.SW.r rfl (.inl rfl) rfl (by decide) (yr_move rfl rfl) ?_
  refine Dr.SW.r rfl (.inl rfl) rfl (by decide) (yr_not rfl rfl) ?_
  refine Dr.SW.r rfl (.inl rfl) rfl (by decide) (yr_move rfl rfl) ?_
  refine Dr.SW.split Dr.lax_ve 93 _ rfl (fun h2 => ?_) (fun h2 => ?_)
  · skip
    replace h2 := bnot_t h2
    first | cases h2 | (simp at h2; done) | (exfalso; omega)
  replace h2 := bnot_f h2
  refine Dr.SW.r rfl (.inr ⟨_, _, _, rfl, rfl, rfl⟩) rfl (by decide) (yr_move rfl rfl) ?_
  refine Dr.SW.r rfl (.inr ⟨_, _, _, rfl, rfl, rfl⟩) rfl (by decide) (yr_not rfl rfl) ?_
  refine Dr.SW.r rfl (.inl rfl) rfl (by decide) (yr_pick_f rfl rfl rfl) ?_
  refine Dr.SW.r rfl (.inl rfl) rfl (by decide) (yr_move rfl rfl) ?_
  refine Dr.SW.split Dr.lax_ve 97 _ rfl (fun h3 => ?_) (fun h3 => ?_)
  · skip
    replace h3 := bnot_t h3
    first | cases h3 | (simp at h3; done) | (exfalso; omega)
  replace h3 := bnot_f h3
  refine Dr.SW.r rfl (.inr ⟨_, _, _, rfl, rfl, rfl⟩) rfl (by decide) (yr_move rfl rfl) ?_
  refine Dr.SW.r rfl (.inr ⟨_, _, _, rfl, rfl, rfl⟩) rfl (by decide) (yr_not rfl rfl) ?_
  refine Dr.SW.r rfl (.inl rfl) rfl (by decide) (yr_pick_f rfl rfl rfl) ?_
  refine Dr.SW.r rfl (.inl rfl) rfl (by decide) (yr_move rfl rfl) ?_
  refine Dr.SW.split Dr.lax_ve 101 _ rfl (fun h4 => ?_) (fun h4 => ?_)
  · skip
    replace h4 := bnot_t h4
    first | cases h4 | (simp at h4; done) | (exfalso; omega)
  replace h4 := bnot_f h4
  refine Dr.SW.r rfl (.inr ⟨_, _, _, rfl, rfl, rfl⟩) rfl (by decide) (yr_move rfl rfl) ?_
  refine Dr.SW.r rfl (.inr ⟨_, _, _, rfl, rfl, rfl⟩) rfl (by decide) (yr_not rfl rfl) ?_
  refine Dr.SW.r rfl (.inl rfl) rfl (by decide) (yr_pick_f rfl rfl rfl) ?_
  refine Dr.SW.r rfl (.inl rfl) rfl (by decide) (yr_move rfl rfl) ?_
  refine Dr.SW.split Dr.lax_ve 105 _ rfl (fun h5 => ?_) (fun h5 => ?_)
  · skip
    replace h5 := bnot_t h5
    first | cases h5 | (simp at h5; done) | (exfalso; omega)
  replace h5 := bnot_f h5
  refine Dr.SW.r rfl (.inr ⟨_, _, _, rfl, rfl, rfl⟩) rfl (by decide) (yr_move rfl rfl) ?_
  refine Dr.SW.r rfl (.inr ⟨_, _, _, rfl, rfl, rfl⟩) rfl (by decide) (yr_not rfl rfl) ?_
  refine Dr.SW.r rfl (.inl rfl) rfl (by decide) (yr_pick_f rfl rfl rfl) ?_
  refine Dr.SW.r rfl (.inl rfl) rfl (by decide) (yr_move rfl rfl) ?_
  refine Dr.SW.split Dr.lax_ve 109 _ rfl (fun h6 => ?_) (fun h6 => ?_)
  · skip
    replace h6 := bnot_t h6
    first | cases h6 | (simp at h6; done) | (exfalso; omega)
  replace h6 := bnot_f h6
  refine Dr.SW.r rfl (.inr ⟨_, _, _, rfl, rfl, rfl⟩) rfl (by decide) (yr_move rfl rfl) ?_
  refine Dr.SW.r rfl (.inr ⟨_, _, _, rfl, rfl, rfl⟩) rfl (by decide) (yr_not rfl rfl) ?_
  refine Dr.SW.r rfl (.inl rfl) rfl (by decide) (yr_pick_f rfl rfl rfl) ?_
  refine Dr.SW.r rfl (.inl rfl) rfl (by decide) (yr_move rfl rfl) ?_
  refine Dr.SW.split Dr.lax_ve 113 _ rfl (fun h7 => ?_) (fun h7 => ?_)
  · skip
    replace h7 := bnot_t h7
    first | cases h7 | (simp at h7; done) | (exfalso; omega)
  replace h7 := bnot_f h7
  refine Dr.SW.r rfl (.inr ⟨_, _, _, rfl, rfl, rfl⟩) rfl (by decide) (yr_move rfl rfl) ?_
  refine Dr.SW.r rfl (.inr ⟨_, _, _, rfl, rfl, rfl⟩) rfl (by decide) (yr_len rfl Try.underlying24 rfl) ?_
  refine Dr.SW.r rfl (.inr ⟨_, _, _, rfl, rfl, rfl⟩) rfl (by decide) (yr_move rfl rfl) ?_
  refine Dr.SW.r rfl (.inr ⟨_, _, _, rfl, rfl, rfl⟩) rfl (by decide) (yr_addN (x54 + 1) rfl rfl rfl (by push_cast; rfl) (by omega)) ?_
  refine Dr.SW.r rfl (.inr ⟨_, _, _, rfl, rfl, rfl⟩) rfl (by decide) (yr_icmp rfl (.inr (.inl rfl)) rfl rfl) ?_
  refine Dr.SW.r rfl (.inl rfl) rfl (by decide) (yr_pick_f rfl rfl rfl) ?_
  refine Dr.SW.r rfl (.inl rfl) rfl (by decide) (yr_move rfl rfl) ?_
  refine Dr.SW.split Dr.lax_ve 120 _ rfl (fun h8 => ?_) (fun h8 => ?_)
  · skip
    replace h8 := ic_neq h8
    first | cases h8 | (simp at h8; done) | (exfalso; omega)
  replace h8 := ic_neq' h8
  refine Dr.SW.r rfl (.inr ⟨_, _, _, rfl, rfl, rfl⟩) rfl (by decide) (yr_move rfl rfl) ?_
  refine Dr.SW.p rfl (.inr ⟨_, _, _, rfl, rfl, rfl⟩) rfl (by decide) (yq_idxN (k := 0) rfl Try.underlying24 sz32_Lx rfl rfl zz1 zz6 (by first | exact vl_length _ | rw [vl_length, (ln_all hf43 hg43 hh43 hx49 hx54).len]) (by decide) zz5) ?_
  refine Dr.SW.p rfl (.inr ⟨_, _, _, rfl, rfl, rfl⟩) rfl (by decide) (yq_loadV (k := 0) (vs := (lnQ (sP f43 g43 h43) (stw x49) x54)) rfl Try.underlying32 sz32_Lx rfl zz1 (by rw [(ln_all hf43 hg43 hh43 hx49 hx54).len]; omega)) ?_
  refine Dr.SW.p rfl (.inr ⟨_, _, _, rfl, rfl, rfl⟩) rfl (by decide) (yq_loadS rfl Try.underlying32 sz32_Lx rfl zz1 rfl rfl rfl) ?_
  refine Dr.SW.r rfl (.inr ⟨_, _, _, rfl, rfl, rfl⟩) rfl (by decide) (yr_veq (a := ((lnQ (sP f43 g43 h43) (stw x49) x54).getD 0 z3)) (b := (sP f43 g43 h43)) rfl (.inr rfl) (by kernel_rfl) veq32_Lx rfl rfl (ln_get0 (ln_all hf43 hg43 hh43 hx49 hx54)) (fin3_nan (by rw [ln_get0 (ln_all hf43 hg43 hh43 hx49 hx54)]; exact (ln_all hf43 hg43 hh43 hx49 hx54).pf)).1 (fin3_nan (by rw [ln_get0 (ln_all hf43 hg43 hh43 hx49 hx54)]; exact (ln_all hf43 hg43 hh43 hx49 hx54).pf)).2.1 (fin3_nan (by rw [ln_get0 (ln_all hf43 hg43 hh43 hx49 hx54)]; exact (ln_all hf43 hg43 hh43 hx49 hx54).pf)).2.2) ?_
  refine Dr.SW.r rfl (.inl rfl) rfl (by decide) (yr_pick_f rfl rfl rfl) ?_
  refine Dr.SW.r rfl (.inl rfl) rfl (by decide) (yr_move rfl rfl) ?_
  refine Dr.SW.split Dr.lax_ve 127 _ rfl (fun h9 => ?_) (fun h9 => ?_)
  · skip
    first | cases h9 | (simp at h9; done) | (exfalso; omega)
  refine Dr.SW.r rfl (.inr ⟨_, _, _, rfl, rfl, rfl⟩) rfl (by decide) (yr_move rfl rfl) ?_
  refine Dr.SW.r rfl (.inr ⟨_, _, _, rfl, rfl, rfl⟩) rfl (by decide) (yr_icmp rfl (.inr (.inl rfl)) rfl rfl) ?_
  refine Dr.SW.r rfl (.inl rfl) rfl (by decide) (yr_pick_f rfl rfl rfl) ?_
  refine Dr.SW.r rfl (.inl rfl) rfl (by decide) (yr_move rfl rfl) ?_
  refine Dr.SW.split Dr.lax_ve 131 _ rfl (fun h10 => ?_) (fun h10 => ?_)
  · skip
    replace h10 := ic_neq h10
    first | cases h10 | (simp at h10; done) | (exfalso; omega)
  replace h10 := ic_neq' h10
  refine Dr.SW.r rfl (.inr ⟨_, _, _, rfl, rfl, rfl⟩) rfl (by decide) (yr_move rfl rfl) ?_
  refine Dr.SW.r rfl (.inr ⟨_, _, _, rfl, rfl, rfl⟩) rfl (by decide) (yr_icmp rfl (.inr (.inl rfl)) rfl rfl) ?_
  refine Dr.SW.r rfl (.inl rfl) rfl (by decide) (yr_pick_f rfl rfl rfl) ?_
  refine Dr.SW.r rfl (.inl rfl) rfl (by decide) (yr_move rfl rfl) ?_
  refine Dr.SW.split Dr.lax_ve 135 _ rfl (fun h11 => ?_) (fun h11 => ?_)
  · skip
    replace h11 := ic_neq h11
    first | cases h11 | (simp at h11; done) | (exfalso; omega)
  replace h11 := ic_neq' h11
  refine Dr.SW.r rfl (.inr ⟨_, _, _, rfl, rfl, rfl⟩) rfl (by decide) (yr_move rfl rfl) ?_
  refine Dr.SW.r rfl (.inr ⟨_, _, _, rfl, rfl, rfl⟩) rfl (by decide) (yr_len rfl Try.underlying24 rfl) ?_
  refine Dr.SW.r rfl (.inr ⟨_, _, _, rfl, rfl, rfl⟩) rfl (by decide) (yr_icmp rfl (.inr (.inl rfl)) rfl rfl) ?_
  refine Dr.SW.r rfl (.inl rfl) rfl (by decide) (yr_pick_f rfl rfl rfl) ?_
  refine Dr.SW.r rfl (.inl rfl) rfl (by decide) (yr_move rfl rfl) ?_
  refine Dr.SW.split Dr.lax_ve 140 _ rfl (fun h12 => ?_) (fun h12 => ?_)
  · skip
    replace h12 := ic_neq h12
    first | cases h12 | (simp at h12; done) | (exfalso; omega)
  replace h12 := ic_neq' h12
  refine Dr.SW.r rfl (.inr ⟨_, _, _, rfl, rfl, rfl⟩) rfl (by decide) (yr_move rfl rfl) ?_
  refine Dr.SW.p rfl (.inr ⟨_, _, _, rfl, rfl, rfl⟩) rfl (by decide) (yq_idxN (k := 1) rfl Try.underlying24 sz32_Lx rfl rfl zz1 zz6 (by first | exact vl_length _ | rw [vl_length, (ln_all hf43 hg43 hh43 hx49 hx54).len]) (by decide) zz5) ?_
  refine Dr.SW.p rfl (.inr ⟨_, _, _, rfl, rfl, rfl⟩) rfl (by decide) (yq_loadV (k := 1) (vs := [(sP f43 g43 h43), (fnP (sP f43 g43 h43) (stw x49))]) rfl Try.underlying32 sz32_Lx rfl zz1 (show 1 < 2 by decide)) ?_
  refine Dr.SW.p rfl (.inr ⟨_, _, _, rfl, rfl, rfl⟩) rfl (by decide) (yq_loadS rfl Try.underlying32 sz32_Lx rfl zz1 rfl rfl rfl) ?_
  refine Dr.SW.r rfl (.inr ⟨_, _, _, rfl, rfl, rfl⟩) rfl (by decide) (yr_veq (a := ([(sP f43 g43 h43), (fnP (sP f43 g43 h43) (stw x49))].getD 1 z3)) (b := (fnP (sP f43 g43 h43) (stw x49))) rfl (.inr rfl) (by kernel_rfl) veq32_Lx rfl rfl (two_get _ _) (fin3_nan (by rw [two_get]; exact (ln_all hf43 hg43 hh43 hx49 hx54).ff)).1 (fin3_nan (by rw [two_get]; exact (ln_all hf43 hg43 hh43 hx49 hx54).ff)).2.1 (fin3_nan (by rw [two_get]; exact (ln_all hf43 hg43 hh43 hx49 hx54).ff)).2.2) ?_
  refine Dr.SW.r rfl (.inl rfl) rfl (by decide) (yr_pick_f rfl rfl rfl) ?_
  refine Dr.SW.done ?_
  refine Dr.eqO (by simp only [List.append_nil, List.append_assoc, List.cons_append, List.nil_append] <;> rfl) ?_
  refine VE.then_wp ?_
  refine V.cond rfl (fun h13 => ?_) (fun h13 => ?_)
  · skip
    first | cases h13 | (simp at h13; done) | (exfalso; omega)
  refine V.skip ?_
  refine VE.then_wp ?_
  refine V.seq ?_
  refine V.seq ?_
  refine V.region ?_
  refine VL.q (.inl rfl) rfl (by decide) (yq_loadS rfl Try.underlying32 sz32_Lx rfl zz0 rfl rfl rfl) ?_
  refine VL.q (.inl rfl) rfl (by decide) (yq_loadS rfl Try.underlying32 sz32_Lx rfl zz0 rfl rfl rfl) ?_
  refine VL.q (.inl rfl) rfl (by decide) (yq_callf rfl known14_Lx (.cons rfl (.cons rfl .nil)) (fun w hw => (c_apE (sP f43 g43 h43) (lnK (sP f43 g43 h43) (stw x49) 1)))) ?_
  refine VL.r (.inl rfl) rfl (by decide) (yr_move rfl rfl) ?_
  refine VL.r (.inl rfl) rfl (by decide) (yr_fconv rfl Try.underlying25 Try.underlying45 (by decide) rfl (fover_up _)) ?_
  refine VL.q (.inl rfl) rfl (by decide) (yq_callf rfl known13_Lx (.cons rfl (.cons rfl .nil)) (fun w hw => (c_r8GapL (ln_all hf43 hg43 hh43 hx49 hx54).ag.1 (ln_all hf43 hg43 hh43 hx49 hx54).ag.2.1))) ?_
  refine VL.r (.inl rfl) rfl (by decide) (yr_fcmp (b := 4562254508917369340) rfl (.inr (.inr (.inr (.inr (.inl rfl))))) rfl rfl) ?_
  refine VL.r (.inl rfl) rfl (by decide) (yr_move rfl rfl) ?_
  refine VX.split 154 _ rfl (fun h14 => ?_) (fun h14 => ?_)
  · skip
    exact absurd (h14.symm.trans (ln_all hf43 hg43 hh43 hx49 hx54).ag.2.2) (by decide)
  refine VL.r (.inr ⟨_, _, _, rfl, rfl, rfl⟩) rfl (by decide) (yr_move rfl rfl) ?_
  refine VL.r (.inr ⟨_, _, _, rfl, rfl, rfl⟩) rfl (by decide) (yr_fconv rfl Try.underlying25 Try.underlying45 (by decide) rfl (fover_up _)) ?_
  refine VL.r (.inr ⟨_, _, _, rfl, rfl, rfl⟩) rfl (by decide) (yr_move rfl rfl) ?_
  refine VL.r (.inr ⟨_, _, _, rfl, rfl, rfl⟩) rfl (by decide) (yr_fconv rfl Try.underlying25 Try.underlying45 (by decide) rfl (fover_up _)) ?_
  refine VL.r (.inr ⟨_, _, _, rfl, rfl, rfl⟩) rfl (by decide) (yr_move rfl rfl) ?_
  refine VL.r (.inr ⟨_, _, _, rfl, rfl, rfl⟩) rfl (by decide) (yr_ofInt rfl Try.underlying2 Try.underlying45 rfl) ?_
  refine VL.r (.inr ⟨_, _, _, rfl, rfl, rfl⟩) rfl (by decide) (yr_float rfl (.inr (.inr (.inl rfl))) rfl rfl) ?_
  refine VL.q (.inr ⟨_, _, _, rfl, rfl, rfl⟩) rfl (by decide) (yq_callf rfl known13_Lx (.cons rfl (.cons rfl .nil)) (fun w hw => (c_r8GapL (ln_lg (ln_all hf43 hg43 hh43 hx49 hx54)).1 (ln_lg (ln_all hf43 hg43 hh43 hx49 hx54)).2.1))) ?_
  refine VL.r (.inr ⟨_, _, _, rfl, rfl, rfl⟩) rfl (by decide) (yr_fcmp (b := 4562254508917369340) rfl (.inr (.inr (.inr (.inr (.inl rfl))))) rfl rfl) ?_
  refine VL.r (.inl rfl) rfl (by decide) (yr_pick_f rfl rfl rfl) ?_
  refine VL.r (.inl rfl) rfl (by decide) (yr_move rfl rfl) ?_
  refine VX.split 165 _ rfl (fun h15 => ?_) (fun h15 => ?_)
  · skip
    exact absurd (h15.symm.trans (ln_lg (ln_all hf43 hg43 hh43 hx49 hx54)).2.2) (by decide)
  refine VL.q (.inr ⟨_, _, _, rfl, rfl, rfl⟩) rfl (by decide) (yq_loadS rfl Try.underlying32 sz32_Lx rfl zz0 rfl rfl rfl) ?_
  refine VL.q (.inr ⟨_, _, _, rfl, rfl, rfl⟩) rfl (by decide) (yq_loadS rfl Try.underlying32 sz32_Lx rfl zz0 rfl rfl rfl) ?_
  refine VL.q (.inr ⟨_, _, _, rfl, rfl, rfl⟩) rfl (by decide) (yq_callf rfl known14_Lx (.cons rfl (.cons rfl .nil)) (fun w hw => (c_apE (fnP (sP f43 g43 h43) (stw x49)) (lnK (sP f43 g43 h43) (stw x49) 1)))) ?_
  refine VL.r (.inr ⟨_, _, _, rfl, rfl, rfl⟩) rfl (by decide) (yr_fcmp (b := 4602678819172646912) rfl (.inr (.inr (.inr (.inr (.inl rfl))))) rfl rfl) ?_
  refine VL.r (.inl rfl) rfl (by decide) (yr_pick_f rfl rfl rfl) ?_
  refine VL.nil ?_
  refine VE.then_wp ?_
  refine V.cond rfl (fun h16 => ?_) (fun h16 => ?_)
  · skip
    exact absurd (h16.symm.trans (ln_all hf43 hg43 hh43 hx49 hx54).fg) (by decide)
  refine V.skip ?_
  refine VE.then_wp ?_
  refine V.seq ?_
  refine V.seq ?_
  refine V.region ?_
  refine VL.r (.inl rfl) rfl (by decide) (yr_assign (u := .int .i64 1) rfl rfl) ?_
  refine VL.nil ?_
  refine VE.then_wp ?_
  refine V.block ?_
  refine V.loops (G := Nat) [(7, _), (8, _), (9, _), (10, _), (11, _)] (fun (k : Nat) => k ≤ x54) (fun (k : Nat) => [(23, .int .i64 ((k + 1 : Nat) : Int))]) (fun (k : Nat) => x54 - k) 0 (.cons rfl (.cons rfl (.cons rfl (.cons rfl (.cons rfl .nil))))) (.cons (congrArg (fun i => some (Value.int .i64 i)) (by rfl)) .nil) ?_ ?_
  · exact (Nat.zero_le _)
  rintro k hk
  show V _ _ _ _ ([(23, .int .i64 ((k + 1 : Nat) : Int))] ++ [(7, _), (8, _), (9, _), (10, _), (11, _)]) _ _
  refine V.seq ?_
  refine V.seq ?_
  refine V.region ?_
  refine VL.r (.inl rfl) rfl (by decide) (yr_move rfl rfl) ?_
  refine VL.r (.inl rfl) rfl (by decide) (yr_move rfl rfl) ?_
  refine VL.r (.inl rfl) rfl (by decide) (yr_len rfl Try.underlying24 rfl) ?_
  refine VL.r (.inl rfl) rfl (by decide) (yr_icmp rfl (.inr (.inr (.inl rfl))) rfl rfl) ?_
  refine VL.nil ?_
  refine VE.then_wp ?_
  refine V.cond rfl (fun h17 => ?_) (fun h17 => ?_)
  · skip
    replace h17 := ic_lss h17
    refine V.skip ?_
    refine VE.then_wp ?_
    refine V.seq ?_
    refine V.block ?_
    refine V.seq ?_
    refine V.region ?_
    refine VL.r (.inl rfl) rfl (by decide) (yr_move rfl rfl) ?_
    refine VL.r (.inl rfl) rfl (by decide) (yr_move rfl rfl) ?_
    refine VL.r (.inl rfl) rfl (by decide) (yr_move rfl rfl) ?_
    refine VL.r (.inl rfl) rfl (by decide) (yr_subN k rfl rfl rfl (by omega) (by omega)) ?_
    refine VL.q (.inl rfl) rfl (by decide) (yq_idxN (k := k) rfl Try.underlying24 sz32_Lx rfl rfl zz0 zz6 (by first | exact vl_length _ | rw [vl_length, (ln_all hf43 hg43 hh43 hx49 hx54).len]) (by decide) zz5) ?_
    refine VL.q (.inl rfl) rfl (by decide) (yq_loadV (k := k) (vs := (lnQ (sP f43 g43 h43) (stw x49) x54)) rfl Try.underlying32 sz32_Lx rfl zz0 (by rw [(ln_all hf43 hg43 hh43 hx49 hx54).len]; omega)) ?_
    refine VL.r (.inl rfl) rfl (by decide) (yr_move rfl rfl) ?_
    refine VL.q (.inl rfl) rfl (by decide) (yq_callf rfl known9_Lx (.cons rfl (.cons rfl (.cons rfl .nil))) (fun w hw => (c_slE (P := (sP f43 g43 h43)) (i := k) (ln_all hf43 hg43 hh43 hx49 hx54) (q := ((lnQ (sP f43 g43 h43) (stw x49) x54)).getD k z3) ((ln_all hf43 hg43 hh43 hx49 hx54).get k (by omega)) (by omega) (show Cl _ _ (whd (fun _ => (a37, c37)) (RW (icL 12))) from by rw [ln_whd]; exact zz2) (ln_wrw (L := icL 12) zz2)))) ?_
    refine VL.r (.inl rfl) rfl (by decide) (yr_move rfl rfl) ?_
    refine VL.r (.inl rfl) rfl (by decide) (yr_extract rfl rfl rfl (by nofun)) ?_
    refine VL.r (.inl rfl) rfl (by decide) (yr_extract rfl rfl rfl (by nofun)) ?_
    refine VL.new1 (.inl rfl) rfl (by decide) (yn_alloc rfl zero32_Lx rfl) ?_
    intro b24
    refine VL.s (.inl rfl) rfl (yc_store rfl sz32_Lx rfl rfl zz3 (.inr ⟨rfl, rfl⟩) rfl zz4 (by decide) rfl) ?_
    rintro ⟨⟩
    refine VL.r (.inl rfl) rfl (by decide) (yr_assign rfl rfl) ?_
    refine VL.nil ?_
    refine VE.then_wp ?_
    refine V.seq ?_
    refine Dr.V.drawS [(0, 5), (1, 5), (2, 5), (3, 5), (4, 5), (5, 5), (6, 5), (7, 5), (8, 5), (9, 5)] [] [] _ mixed_Lx (by kernel_rfl) (fun w hw => hw) ?_
    refine Dr.SW.r rfl (.inl rfl) rfl (by decide) (yr_move rfl rfl) ?_
    refine Dr.SW.r rfl (.inl rfl) rfl (by decide) (yr_not rfl rfl) ?_
    refine Dr.SW.r rfl (.inl rfl) rfl (by decide) (yr_move rfl rfl) ?_
    refine Dr.SW.split Dr.lax_ve 190 _ rfl (fun h18 => ?_) (fun h18 => ?_)
    · skip
      replace h18 := bnot_t h18
      first | cases h18 | (simp at h18; done) | (exfalso; omega)
    replace h18 := bnot_f h18
    refine Dr.SW.p rfl (.inr ⟨_, _, _, rfl, rfl, rfl⟩) rfl (by decide) (yq_loadS rfl Try.underlying32 sz32_Lx rfl zz1 rfl rfl rfl) ?_
    refine Dr.SW.r rfl (.inr ⟨_, _, _, rfl, rfl, rfl⟩) rfl (by decide) (yr_move rfl rfl) ?_
    refine Dr.SW.r rfl (.inr ⟨_, _, _, rfl, rfl, rfl⟩) rfl (by decide) (yr_move rfl rfl) ?_
    refine Dr.SW.p rfl (.inr ⟨_, _, _, rfl, rfl, rfl⟩) rfl (by decide) (yq_idxN (k := (k + 1)) rfl Try.underlying24 sz32_Lx rfl rfl zz1 zz6 (by first | exact vl_length _ | rw [vl_length, (ln_all hf43 hg43 hh43 hx49 hx54).len]) (by decide) zz5) ?_
    refine Dr.SW.p rfl (.inr ⟨_, _, _, rfl, rfl, rfl⟩) rfl (by decide) (yq_loadV (k := (k + 1)) (vs := (lnQ (sP f43 g43 h43) (stw x49) x54)) rfl Try.underlying32 sz32_Lx rfl zz1 (by rw [(ln_all hf43 hg43 hh43 hx49 hx54).len]; omega)) ?_
    refine Dr.SW.r rfl (.inr ⟨_, _, _, rfl, rfl, rfl⟩) rfl (by decide) (yr_veq (a := (lnK (sP f43 g43 h43) (stw x49) (k + 1))) (b := ((lnQ (sP f43 g43 h43) (stw x49) x54).getD (k + 1) z3)) rfl (.inr rfl) (by kernel_rfl) veq32_Lx rfl rfl ((ln_all hf43 hg43 hh43 hx49 hx54).get (k + 1) (by omega)).symm (fin3_nan ((ln_all hf43 hg43 hh43 hx49 hx54).kf (k + 1) (by omega))).1 (fin3_nan ((ln_all hf43 hg43 hh43 hx49 hx54).kf (k + 1) (by omega))).2.1 (fin3_nan ((ln_all hf43 hg43 hh43 hx49 hx54).kf (k + 1) (by omega))).2.2) ?_
    refine Dr.SW.r rfl (.inl rfl) rfl (by decide) (yr_pick_f rfl rfl rfl) ?_
    refine Dr.SW.done ?_
    refine Dr.eqO (by simp only [List.append_nil, List.append_assoc, List.cons_append, List.nil_append] <;> rfl) ?_
    refine VE.then_wp ?_
    refine V.cond rfl (fun h19 => ?_) (fun h19 => ?_)
    · skip
      first | cases h19 | (simp at h19; done) | (exfalso; omega)
    refine V.skip ?_
    refine VE.block_normal ?_
    refine VE.then_wp ?_
    refine V.region ?_
    refine VL.r (.inl rfl) rfl (by decide) (yr_move rfl rfl) ?_
    refine VL.r (.inl rfl) rfl (by decide) (yr_int rfl rfl rfl (.inl ⟨rfl, wrap_in (by omega)⟩)) ?_
    refine VL.r (.inl rfl) rfl (by decide) (yr_assign rfl rfl) ?_
    refine VL.nil ?_
    refine VE.round (k + 1) ?_ ?_ ?_ ?_ ?_
    · exact (.cons (congrArg (fun i => some (Value.int .i64 i)) (by omega)) .nil)
    · exact (.cons rfl (.cons rfl (.cons rfl (.cons rfl (.cons rfl .nil)))))
    · exact (fun w hw => hw.sub (List.sublist_cons_self _ _))
    · (try dsimp only); omega
    · (try dsimp only); omega
  replace h17 := ic_lss' h17
  refine V.exit ?_
  refine VE.then_exit ?_
  refine VE.then_exit ?_
  refine VE.block_here ?_
  refine VE.then_wp ?_
  refine V.seq ?_
  refine V.region ?_
  refine VL.r (.inl rfl) rfl (by decide) (yr_move rfl rfl) ?_
  refine VL.r (.inl rfl) rfl (by decide) (yr_move rfl rfl) ?_
  refine VL.q (.inl rfl) rfl (by decide) (yq_callf rfl known15_Lx (.cons rfl (.cons rfl .nil)) (fun w hw => (c_nbE (ln_all hf43 hg43 hh43 hx49 hx54) hx54 zz2))) ?_
  refine VL.r (.inl rfl) rfl (by decide) (yr_move rfl rfl) ?_
  refine VL.r (.inl rfl) rfl (by decide) (yr_extract rfl rfl rfl (by nofun)) ?_
  refine VL.r (.inl rfl) rfl (by decide) (yr_extract rfl rfl rfl (by nofun)) ?_
  refine VL.r (.inl rfl) rfl (by decide) (yr_extract rfl rfl rfl (by nofun)) ?_
  refine VL.r (.inl rfl) rfl (by decide) (yr_assign rfl rfl) ?_
  refine VL.r (.inl rfl) rfl (by decide) (yr_assign rfl rfl) ?_
  refine VL.r (.inl rfl) rfl (by decide) (yr_assign rfl rfl) ?_
  refine VL.nil ?_
  refine VE.then_wp ?_
  refine V.seq ?_
  refine V.region ?_
  refine VL.r (.inl rfl) rfl (by decide) (yr_move rfl rfl) ?_
  refine VL.q (.inl rfl) rfl (by decide) (yq_callf rfl known16_Lx (.cons rfl .nil) (fun w hw => (c_bdE (ln_all hf43 hg43 hh43 hx49 hx54) hx54 zz2))) ?_
  refine VL.r (.inl rfl) rfl (by decide) (yr_move rfl rfl) ?_
  refine VL.r (.inl rfl) rfl (by decide) (yr_extract rfl rfl rfl (by nofun)) ?_
  refine VL.r (.inl rfl) rfl (by decide) (yr_extract rfl rfl rfl (by nofun)) ?_
  refine VL.r (.inl rfl) rfl (by decide) (yr_assign rfl rfl) ?_
  refine VL.r (.inl rfl) rfl (by decide) (yr_assign rfl rfl) ?_
  refine VL.nil ?_
  refine VE.then_wp ?_
  refine V.seq ?_
  refine V.region ?_
  refine VL.r (.inl rfl) rfl (by decide) (yr_move rfl rfl) ?_
  refine VL.new1 (.inl rfl) rfl (by decide) (yn_callf rfl known17_Lx (.cons rfl (.cons rfl .nil)) (fun w hw => (c_thE (ln_all hf43 hg43 hh43 hx49 hx54) hx54 zz2))) ?_
  rintro ⟨a212, c212⟩
  refine VL.r (.inl rfl) rfl (by decide) (yr_move rfl rfl) ?_
  refine VL.r (.inl rfl) rfl (by decide) (yr_extract rfl rfl rfl (by nofun)) ?_
  refine VL.r (.inl rfl) rfl (by decide) (yr_extract rfl rfl rfl (by nofun)) ?_
  refine VL.r (.inl rfl) rfl (by decide) (yr_assign rfl rfl) ?_
  refine VL.r (.inl rfl) rfl (by decide) (yr_assign rfl rfl) ?_
  refine VL.nil ?_
  refine VE.then_wp ?_
  refine V.seq ?_
  refine V.seq ?_
  refine Dr.V.drawS [(0, 5), (1, 5), (2, 5), (3, 5), (4, 5), (5, 5), (6, 5), (7, 5), (8, 5), (9, 5), (10, 5), (11, 5), (12, 5), (13, 5), (14, 5), (15, 5), (16, 5), (17, 5), (18, 5), (19, 5), (20, 5), (21, 5), (22, 5), (23, 5), (24, 5), (25, 5), (26, 5), (27, 5), (28, 5), (29, 5), (30, 5), (31, 5), (32, 5), (33, 5), (34, 5), (35, 5), (36, 5)] [] [] _ mixed_Lx (by kernel_rfl) (fun w hw => hw) ?_
  refine Dr.SW.r rfl (.inl rfl) rfl (by decide) (yr_move rfl rfl) ?_
  refine Dr.SW.r rfl (.inl rfl) rfl (by decide) (yr_not rfl rfl) ?_
  refine Dr.SW.r rfl (.inl rfl) rfl (by decide) (yr_move rfl rfl) ?_
  refine Dr.SW.split Dr.lax_ve 217 _ rfl (fun h20 => ?_) (fun h20 => ?_)
  · skip
    replace h20 := bnot_t h20
    first | cases h20 | (simp at h20; done) | (exfalso; omega)
  replace h20 := bnot_f h20
  refine Dr.SW.r rfl (.inr ⟨_, _, _, rfl, rfl, rfl⟩) rfl (by decide) (yr_move rfl rfl) ?_
  refine Dr.SW.r rfl (.inr ⟨_, _, _, rfl, rfl, rfl⟩) rfl (by decide) (yr_not rfl rfl) ?_
  refine Dr.SW.r rfl (.inl rfl) rfl (by decide) (yr_pick_f rfl rfl rfl) ?_
  refine Dr.SW.r rfl (.inl rfl) rfl (by decide) (yr_move rfl rfl) ?_
  refine Dr.SW.split Dr.lax_ve 221 _ rfl (fun h21 => ?_) (fun h21 => ?_)
  · skip
    replace h21 := bnot_t h21
    first | cases h21 | (simp at h21; done) | (exfalso; omega)
  replace h21 := bnot_f h21
  refine Dr.SW.r rfl (.inr ⟨_, _, _, rfl, rfl, rfl⟩) rfl (by decide) (yr_move rfl rfl) ?_
  refine Dr.SW.r rfl (.inr ⟨_, _, _, rfl, rfl, rfl⟩) rfl (by decide) (yr_not rfl rfl) ?_
  refine Dr.SW.r rfl (.inl rfl) rfl (by decide) (yr_pick_f rfl rfl rfl) ?_
  refine Dr.SW.r rfl (.inl rfl) rfl (by decide) (yr_move rfl rfl) ?_
  refine Dr.SW.split Dr.lax_ve 225 _ rfl (fun h22 => ?_) (fun h22 => ?_)
  · skip
    replace h22 := bnot_t h22
    first | cases h22 | (simp at h22; done) | (exfalso; omega)
  replace h22 := bnot_f h22
  refine Dr.SW.r rfl (.inr ⟨_, _, _, rfl, rfl, rfl⟩) rfl (by decide) (yr_move rfl rfl) ?_
  refine Dr.SW.r rfl (.inr ⟨_, _, _, rfl, rfl, rfl⟩) rfl (by decide) (yr_move rfl rfl) ?_
  refine Dr.SW.r rfl (.inr ⟨_, _, _, rfl, rfl, rfl⟩) rfl (by decide) (yr_icmp rfl (.inr (.inl rfl)) rfl rfl) ?_
  refine Dr.SW.r rfl (.inl rfl) rfl (by decide) (yr_pick_f rfl rfl rfl) ?_
  refine Dr.SW.r rfl (.inl rfl) rfl (by decide) (yr_move rfl rfl) ?_
  refine Dr.SW.split Dr.lax_ve 230 _ rfl (fun h23 => ?_) (fun h23 => ?_)
  · skip
    replace h23 := ic_neq h23
    first | cases h23 | (simp at h23; done) | (exfalso; omega)
  replace h23 := ic_neq' h23
  refine Dr.SW.r rfl (.inr ⟨_, _, _, rfl, rfl, rfl⟩) rfl (by decide) (yr_move rfl rfl) ?_
  refine Dr.SW.r rfl (.inr ⟨_, _, _, rfl, rfl, rfl⟩) rfl (by decide) (yr_fconv rfl Try.underlying25 Try.underlying45 (by decide) rfl (fover_up _)) ?_
  refine Dr.SW.r rfl (.inr ⟨_, _, _, rfl, rfl, rfl⟩) rfl (by decide) (yr_move rfl rfl) ?_
  refine Dr.SW.r rfl (.inr ⟨_, _, _, rfl, rfl, rfl⟩) rfl (by decide) (yr_move rfl rfl) ?_
  refine Dr.SW.p rfl (.inr ⟨_, _, _, rfl, rfl, rfl⟩) rfl (by decide) (yq_idxN (k := x54) rfl Try.underlying24 sz32_Lx rfl rfl zz1 zz6 (by first | exact vl_length _ | rw [vl_length, (ln_all hf43 hg43 hh43 hx49 hx54).len]) (by decide) zz5) ?_
  refine Dr.SW.p rfl (.inr ⟨_, _, _, rfl, rfl, rfl⟩) rfl (by decide) (yq_loadV (k := x54) (vs := (lnQ (sP f43 g43 h43) (stw x49) x54)) rfl Try.underlying32 sz32_Lx rfl zz1 (by rw [(ln_all hf43 hg43 hh43 hx49 hx54).len]; omega)) ?_
  refine Dr.SW.p rfl (.inr ⟨_, _, _, rfl, rfl, rfl⟩) rfl (by decide) (yq_loadS rfl Try.underlying32 sz32_Lx rfl zz1 rfl rfl rfl) ?_
  refine Dr.SW.p rfl (.inr ⟨_, _, _, rfl, rfl, rfl⟩) rfl (by decide) (yq_callf rfl known14_Lx (.cons rfl (.cons rfl .nil)) (fun w hw => (c_apE ((lnQ (sP f43 g43 h43) (stw x49) x54).getD x54 z3) (sP f43 g43 h43)))) ?_
  refine Dr.SW.p rfl (.inr ⟨_, _, _, rfl, rfl, rfl⟩) rfl (by decide) (yq_callf rfl known13_Lx (.cons rfl (.cons rfl .nil)) (fun w hw => (c_r8GapL (ln_ng2 (ln_all hf43 hg43 hh43 hx49 hx54)).1 (ln_ng2 (ln_all hf43 hg43 hh43 hx49 hx54)).2.1))) ?_
  refine Dr.SW.r rfl (.inr ⟨_, _, _, rfl, rfl, rfl⟩) rfl (by decide) (yr_fcmp (b := 4562254508917369340) rfl (.inr (.inr (.inr (.inr (.inl rfl))))) rfl rfl) ?_
  refine Dr.SW.r rfl (.inl rfl) rfl (by decide) (yr_pick_f rfl rfl rfl) ?_
  refine Dr.SW.r rfl (.inl rfl) rfl (by decide) (yr_move rfl rfl) ?_
  refine Dr.SW.split Dr.lax_ve 242 _ rfl (fun h24 => ?_) (fun h24 => ?_)
  · skip
    exact absurd (h24.symm.trans (ln_ng2 (ln_all hf43 hg43 hh43 hx49 hx54)).2.2) (by decide)
  refine Dr.SW.r rfl (.inr ⟨_, _, _, rfl, rfl, rfl⟩) rfl (by decide) (yr_move rfl rfl) ?_
  refine Dr.SW.r rfl (.inr ⟨_, _, _, rfl, rfl, rfl⟩) rfl (by decide) (yr_fconv rfl Try.underlying25 Try.underlying45 (by decide) rfl (fover_up _)) ?_
  refine Dr.SW.r rfl (.inr ⟨_, _, _, rfl, rfl, rfl⟩) rfl (by decide) (yr_fcmp (b := 4607186922399644778) rfl (.inr (.inr (.inr (.inr (.inl rfl))))) rfl rfl) ?_
  refine Dr.SW.r rfl (.inl rfl) rfl (by decide) (yr_pick_f rfl rfl rfl) ?_
  refine Dr.SW.r rfl (.inl rfl) rfl (by decide) (yr_move rfl rfl) ?_
  refine Dr.SW.split Dr.lax_ve 247 _ rfl (fun h25 => ?_) (fun h25 => ?_)
  · skip
    exact absurd (h25.symm.trans (ln_bg (ln_all hf43 hg43 hh43 hx49 hx54))) (by decide)
  refine Dr.SW.r rfl (.inr ⟨_, _, _, rfl, rfl, rfl⟩) rfl (by decide) (yr_move rfl rfl) ?_
  refine Dr.SW.r rfl (.inr ⟨_, _, _, rfl, rfl, rfl⟩) rfl (by decide) (yr_len rfl Try.underlying24 rfl) ?_
  refine Dr.SW.r rfl (.inr ⟨_, _, _, rfl, rfl, rfl⟩) rfl (by decide) (yr_icmp rfl (.inr (.inr (.inl rfl))) rfl rfl) ?_
  refine Dr.SW.r rfl (.inl rfl) rfl (by decide) (yr_pick_f rfl rfl rfl) ?_
  refine Dr.SW.done ?_
  refine Dr.eqO (by simp only [List.append_nil, List.append_assoc, List.cons_append, List.nil_append] <;> rfl) ?_
  refine VE.then_wp ?_
  refine V.cond rfl (fun h26 => ?_) (fun h26 => ?_)
  · skip
    replace h26 := ic_lss h26
    exact absurd (show (((thQ (sP f43 g43 h43) (stw x49) x54).length : Nat) : Int) < 1 from h26) (by have := (thQ_len (P := (sP f43 g43 h43)) (st := (stw x49)) (n := x54)); omega)
  replace h26 := ic_lss' h26
  refine V.skip ?_
  refine VE.then_wp ?_
  refine V.seq ?_
  refine Dr.V.drawS [(0, 5), (1, 5), (2, 5), (3, 5), (4, 5), (5, 5), (6, 5), (7, 5), (8, 5), (9, 5), (10, 5), (11, 5), (12, 5), (13, 5), (14, 5), (15, 5), (16, 5), (17, 5), (18, 5)] [] [] _ mixed_Lx (by kernel_rfl) (fun w hw => hw) ?_
  refine Dr.SW.r rfl (.inl rfl) rfl (by decide) (yr_move rfl rfl) ?_
  refine Dr.SW.p rfl (.inl rfl) rfl (by decide) (yq_idxN (k := 0) rfl Try.underlying24 sz32_Lx rfl rfl zz1 zz6 (by first | exact vl_length _ | rw [vl_length, (ln_all hf43 hg43 hh43 hx49 hx54).len]) (by decide) zz5) ?_
  refine Dr.SW.p rfl (.inl rfl) rfl (by decide) (yq_loadV (k := 0) (vs := (thQ (sP f43 g43 h43) (stw x49) x54)) rfl Try.underlying32 sz32_Lx rfl zz1 (by have := (thQ_len (P := (sP f43 g43 h43)) (st := (stw x49)) (n := x54)); omega)) ?_
  refine Dr.SW.p rfl (.inl rfl) rfl (by decide) (yq_loadS rfl Try.underlying32 sz32_Lx rfl zz1 rfl rfl rfl) ?_
  refine Dr.SW.r rfl (.inl rfl) rfl (by decide) (yr_veq (a := ((thQ (sP f43 g43 h43) (stw x49) x54).getD 0 z3)) (b := (sP f43 g43 h43)) rfl (.inl rfl) (by kernel_rfl) veq32_Lx rfl rfl (thQ_0 (ln_all hf43 hg43 hh43 hx49 hx54)) (fin3_nan (by rw [thQ_0 (ln_all hf43 hg43 hh43 hx49 hx54)]; exact (ln_all hf43 hg43 hh43 hx49 hx54).pf)).1 (fin3_nan (by rw [thQ_0 (ln_all hf43 hg43 hh43 hx49 hx54)]; exact (ln_all hf43 hg43 hh43 hx49 hx54).pf)).2.1 (fin3_nan (by rw [thQ_0 (ln_all hf43 hg43 hh43 hx49 hx54)]; exact (ln_all hf43 hg43 hh43 hx49 hx54).pf)).2.2) ?_
  refine Dr.SW.r rfl (.inl rfl) rfl (by decide) (yr_move rfl rfl) ?_
  refine Dr.SW.split Dr.lax_ve 257 _ rfl (fun h27 => ?_) (fun h27 => ?_)
  · skip
    refine Dr.SW.r rfl (.inr ⟨_, _, _, rfl, rfl, rfl⟩) rfl (by decide) (yr_move rfl rfl) ?_
    refine Dr.SW.r rfl (.inr ⟨_, _, _, rfl, rfl, rfl⟩) rfl (by decide) (yr_move rfl rfl) ?_
    refine Dr.SW.r rfl (.inr ⟨_, _, _, rfl, rfl, rfl⟩) rfl (by decide) (yr_len rfl Try.underlying24 rfl) ?_
    refine Dr.SW.r rfl (.inr ⟨_, _, _, rfl, rfl, rfl⟩) rfl (by decide) (yr_subN ((thQ (sP f43 g43 h43) (stw x49) x54).length - 1) rfl rfl rfl (show (((thQ (sP f43 g43 h43) (stw x49) x54).length : Nat) : Int) - 1 = ((((thQ (sP f43 g43 h43) (stw x49) x54).length - 1) : Nat) : Int) by have := (thQ_len (P := (sP f43 g43 h43)) (st := (stw x49)) (n := x54)); omega) (show ((thQ (sP f43 g43 h43) (stw x49) x54).length - 1) ≤ 9223372036854775807 by have := (thQ_len (P := (sP f43 g43 h43)) (st := (stw x49)) (n := x54)); omega)) ?_
    refine Dr.SW.p rfl (.inr ⟨_, _, _, rfl, rfl, rfl⟩) rfl (by decide) (yq_idxN (k := ((thQ (sP f43 g43 h43) (stw x49) x54).length - 1)) rfl Try.underlying24 sz32_Lx rfl rfl zz1 zz6 (by first | exact vl_length _ | rw [vl_length, (ln_all hf43 hg43 hh43 hx49 hx54).len]) (by decide) zz5) ?_
    refine Dr.SW.p rfl (.inr ⟨_, _, _, rfl, rfl, rfl⟩) rfl (by decide) (yq_loadV (k := ((thQ (sP f43 g43 h43) (stw x49) x54).length - 1)) (vs := (thQ (sP f43 g43 h43) (stw x49) x54)) rfl Try.underlying32 sz32_Lx rfl zz1 (by have := (thQ_len (P := (sP f43 g43 h43)) (st := (stw x49)) (n := x54)); omega)) ?_
    refine Dr.SW.r rfl (.inr ⟨_, _, _, rfl, rfl, rfl⟩) rfl (by decide) (yr_move rfl rfl) ?_
    refine Dr.SW.r rfl (.inr ⟨_, _, _, rfl, rfl, rfl⟩) rfl (by decide) (yr_move rfl rfl) ?_
    refine Dr.SW.p rfl (.inr ⟨_, _, _, rfl, rfl, rfl⟩) rfl (by decide) (yq_idxN (k := x54) rfl Try.underlying24 sz32_Lx rfl rfl zz1 zz6 (by first | exact vl_length _ | rw [vl_length, (ln_all hf43 hg43 hh43 hx49 hx54).len]) (by decide) zz5) ?_
    refine Dr.SW.p rfl (.inr ⟨_, _, _, rfl, rfl, rfl⟩) rfl (by decide) (yq_loadV (k := x54) (vs := (lnQ (sP f43 g43 h43) (stw x49) x54)) rfl Try.underlying32 sz32_Lx rfl zz1 (by rw [(ln_all hf43 hg43 hh43 hx49 hx54).len]; omega)) ?_
    refine Dr.SW.r rfl (.inr ⟨_, _, _, rfl, rfl, rfl⟩) rfl (by decide) (yr_veq (a := ((thQ (sP f43 g43 h43) (stw x49) x54).getD ((thQ (sP f43 g43 h43) (stw x49) x54).length - 1) z3)) (b := ((lnQ (sP f43 g43 h43) (stw x49) x54).getD x54 z3)) rfl (.inl rfl) (by kernel_rfl) veq32_Lx rfl rfl ((thQ_last (ln_all hf43 hg43 hh43 hx49 hx54)).trans ((ln_all hf43 hg43 hh43 hx49 hx54).get x54 (Nat.le_refl _)).symm) (fin3_nan (by rw [thQ_last (ln_all hf43 hg43 hh43 hx49 hx54)]; exact (ln_all hf43 hg43 hh43 hx49 hx54).kf x54 (by omega))).1 (fin3_nan (by rw [thQ_last (ln_all hf43 hg43 hh43 hx49 hx54)]; exact (ln_all hf43 hg43 hh43 hx49 hx54).kf x54 (by omega))).2.1 (fin3_nan (by rw [thQ_last (ln_all hf43 hg43 hh43 hx49 hx54)]; exact (ln_all hf43 hg43 hh43 hx49 hx54).kf x54 (by omega))).2.2) ?_
    refine Dr.SW.r rfl (.inl rfl) rfl (by decide) (yr_pick_t rfl rfl rfl) ?_
    refine Dr.SW.r rfl (.inl rfl) rfl (by decide) (yr_assign rfl rfl) ?_
    refine Dr.SW.done ?_
    refine Dr.eqO (by simp only [List.append_nil, List.append_assoc, List.cons_append, List.nil_append] <;> rfl) ?_
    refine VE.then_wp ?_
    refine V.ret ?_
    refine ret1 rfl rfl (fun w1 hw => ?_)
    exact ⟨rfl, hw.below⟩
  first | cases h27 | (simp at h27; done) | (exfalso; omega)
end Go.Proofs.Ytfkblhlkeglilaa
