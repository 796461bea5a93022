/- Own texts of this claim, merged: WPm. -/
import Derived.KernelRfl
import Derived.Test.YtnommdpgmoljcaaKFnPackedMeshes4
namespace Go.Proofs.Ytnommdpgmoljcaa
open Go.RowKit
set_option linter.unusedVariables false
set_option linter.unusedSimpArgs false
set_option maxRecDepth 20000

theorem sz5_Pm : (Try.prog.info? 5).map (·.size) = some 1 := by kernel_rfl
theorem fb5_Pm : flatB Try.prog 5 = true := by kernel_rfl
theorem sz23_Pm : (Try.prog.info? 23).map (·.size) = some 1 := by kernel_rfl
theorem fb23_Pm : flatB Try.prog 23 = true := by kernel_rfl
theorem known65_Pm : Known Try.prog 65 := Known.mk' Try.func65 (by kernel_rfl)
theorem sz2_Pm : (Try.prog.info? 2).map (·.size) = some 1 := by kernel_rfl
theorem fb2_Pm : flatB Try.prog 2 = true := by kernel_rfl
theorem sz27_Pm : (Try.prog.info? 27).map (·.size) = some 3 := by kernel_rfl
theorem zero27_Pm : (Try.prog.info? 27).bind (·.zero) = some (Value.agg #[Value.float .f32 0, Value.float .f32 0, Value.float .f32 0]) := by kernel_rfl
theorem known64_Pm : Known Try.prog 64 := Known.mk' Try.func64 (by kernel_rfl)
theorem sz30_Pm : (Try.prog.info? 30).map (·.size) = some 8 := by kernel_rfl
theorem known66_Pm : Known Try.prog 66 := Known.mk' Try.func66 (by kernel_rfl)
theorem sz28_Pm : (Try.prog.info? 28).map (·.size) = some 1 := by kernel_rfl
theorem fb28_Pm : flatB Try.prog 28 = true := by kernel_rfl
theorem known67_Pm : Known Try.prog 67 := Known.mk' Try.func67 (by kernel_rfl)
theorem known24_Pm : Known Try.prog 24 := Known.mk' Try.func24 (by kernel_rfl)
theorem known25_Pm : Known Try.prog 25 := Known.mk' Try.func25 (by kernel_rfl)
theorem zero30_Pm : (Try.prog.info? 30).bind (·.zero) = some (Value.agg #[Value.float .f32 0, Value.float .f32 0, Value.float .f32 0, Value.float .f32 0, Value.int .i64 0, Value.int .i64 0, Value.int .i64 0, Value.slice none 0 0]) := by kernel_rfl
theorem known26_Pm : Known Try.prog 26 := Known.mk' Try.func26 (by kernel_rfl)
theorem known19_Pm : Known Try.prog 19 := Known.mk' Try.func19 (by kernel_rfl)
theorem known23_Pm : Known Try.prog 23 := Known.mk' Try.func23 (by kernel_rfl)
theorem known27_Pm : Known Try.prog 27 := Known.mk' Try.func27 (by kernel_rfl)
theorem known28_Pm : Known Try.prog 28 := Known.mk' Try.func28 (by kernel_rfl)
theorem mixed_Pm : Try.prog.follows .mixedOrders = true := by kernel_rfl
theorem known29_Pm : Known Try.prog 29 := Known.mk' Try.func29 (by kernel_rfl)
theorem known30_Pm : Known Try.prog 30 := Known.mk' Try.func30 (by kernel_rfl)
attribute [local irreducible] fop fcmp fconv fneg fabs List.getD qw hqw rvw unOk unG unS unI unR pkT pkOk gap64 fmx Mx

theorem c_r8Long {w : World} {a b : Option Addr} {c d n m : Nat} : Pure Try.prog 24 [.slice a n c, .slice b m d] w (.bool (decide (48 < n) || decide (48 < m))) := by
  refine Pure.enter Try.func24 rfl Try.ntmps24 (Nat.le_of_ble_eq_true rfl) ?_
  refine V.seq ?_
  refine V.region ?_
  refine VL.r (.inl rfl) rfl (by decide) (yr_assign (u := .bool false) rfl rfl) ?_
  refine VL.nil ?_
  refine VE.then_wp ?_
  refine V.seq ?_
  refine V.region ?_
  refine VL.r (.inl rfl) rfl (by decide) (yr_move rfl rfl) ?_
  refine VL.r (.inl rfl) rfl (by decide) (yr_len rfl Try.underlying50 rfl) ?_
  refine VL.r (.inl rfl) rfl (by decide) (yr_icmp rfl (.inr (.inr (.inr (.inr (.inl rfl))))) rfl rfl) ?_
  refine VL.r (.inl rfl) rfl (by decide) (yr_move rfl rfl) ?_
  refine VX.split 8 _ rfl (fun h1 => ?_) (fun h1 => ?_)
  · skip
    replace h1 := ic_gtr h1
    refine VL.no rfl rfl rfl rfl rfl (by decide) ?_
    refine VL.no rfl rfl rfl rfl rfl (by decide) ?_
    refine VL.no rfl rfl rfl rfl rfl (by decide) ?_
    refine VL.r (.inl rfl) rfl (by decide) (yr_pick_t (u := .bool true) rfl rfl rfl) ?_
    refine VL.r (.inl rfl) rfl (by decide) (yr_assign rfl rfl) ?_
    refine VL.nil ?_
    refine VE.then_wp ?_
    refine V.ret ?_
    refine ret1 rfl rfl (fun w1 hw => ?_)
    first
      | exact ⟨congrArg Value.bool (by rw [decide_eq_true (show 48 < n by omega)]; rfl), hw.below⟩
      | exact ⟨congrArg Value.bool (by rw [decide_eq_false (show ¬ 48 < n by omega), Bool.false_or]; exact decide_eq_decide.2 (by omega)), hw.below⟩
  · skip
    replace h1 := ic_gtr' h1
    refine VL.r (.inr ⟨_, _, _, rfl, rfl, rfl⟩) rfl (by decide) (yr_move rfl rfl) ?_
    refine VL.r (.inr ⟨_, _, _, rfl, rfl, rfl⟩) rfl (by decide) (yr_len rfl Try.underlying50 rfl) ?_
    refine VL.r (.inr ⟨_, _, _, rfl, rfl, rfl⟩) rfl (by decide) (yr_icmp rfl (.inr (.inr (.inr (.inr (.inl rfl))))) rfl rfl) ?_
    refine VL.r (.inl rfl) rfl (by decide) (yr_pick_f rfl rfl rfl) ?_
    refine VL.r (.inl rfl) rfl (by decide) (yr_assign rfl rfl) ?_
    refine VL.nil ?_
    refine VE.then_wp ?_
    refine V.ret ?_
    refine ret1 rfl rfl (fun w1 hw => ?_)
    first
      | exact ⟨congrArg Value.bool (by rw [decide_eq_true (show 48 < n by omega)]; rfl), hw.below⟩
      | exact ⟨congrArg Value.bool (by rw [decide_eq_false (show ¬ 48 < n by omega), Bool.false_or]; exact decide_eq_decide.2 (by omega)), hw.below⟩

theorem c_r8At {w : World} {a : Option Addr} {c k m : Nat} {bs : List Int} (hA : Cl w a (bl bs)) (hb : Bytes bs) (hl : bs.length ≤ 100000) (hm : 1 ≤ m) : New Try.prog 28 [.slice a bs.length c, .int .i64 (k : Int), .int .i64 (m : Int)] w (fun x : {x : Nat // x < m} => .int .i64 ((x.1 : Nat) : Int)) (fun _ => []) := by
  refine New.enter Try.func28 rfl Try.ntmps28 (Nat.le_of_ble_eq_true rfl) ?_
  refine V.seq ?_
  refine V.region ?_
  refine VL.r (.inl rfl) rfl (by decide) (yr_assign (u := .int .i64 0) rfl rfl) ?_
  refine VL.nil ?_
  refine VE.then_wp ?_
  refine V.seq ?_
  refine V.seq ?_
  refine V.region ?_
  refine VL.r (.inl rfl) rfl (by decide) (yr_move rfl rfl) ?_
  refine VL.r (.inl rfl) rfl (by decide) (yr_icmp rfl (.inr (.inr (.inr (.inl rfl)))) rfl rfl) ?_
  refine VL.r (.inl rfl) rfl (by decide) (yr_move rfl rfl) ?_
  refine VX.split 9 _ rfl (fun h1 => ?_) (fun h1 => ?_)
  · skip
    replace h1 := ic_leq h1
    refine VL.no rfl rfl rfl rfl rfl (by decide) ?_
    refine VL.no rfl rfl rfl rfl rfl (by decide) ?_
    refine VL.no rfl rfl rfl rfl rfl (by decide) ?_
    refine VL.no rfl rfl rfl rfl rfl (by decide) ?_
    refine VL.r (.inl rfl) rfl (by decide) (yr_pick_t (u := .bool true) rfl rfl rfl) ?_
    refine VL.nil ?_
    refine VE.then_wp ?_
    refine V.condT rfl ?_
    refine V.seq ?_
    refine V.region ?_
    refine VL.r (.inl rfl) rfl (by decide) (yr_assign (u := .int .i64 0) rfl rfl) ?_
    refine VL.nil ?_
    refine VE.then_wp ?_
    refine V.ret ?_
    refine VE.then_ret ?_
    refine ret1 rfl rfl (fun w1 hw => ?_)
    first
      | exact ⟨⟨0, by omega⟩, rfl, hw.below, (fun _ h => by cases h), List.Pairwise.nil⟩
      | exact ⟨⟨(bs.getD k 0).toNat % m, Nat.mod_lt _ (by omega)⟩, rfl, hw.below, (fun _ h => by cases h), List.Pairwise.nil⟩
  · skip
    replace h1 := ic_leq' h1
    refine VL.r (.inr ⟨_, _, _, rfl, rfl, rfl⟩) rfl (by decide) (yr_move rfl rfl) ?_
    refine VL.r (.inr ⟨_, _, _, rfl, rfl, rfl⟩) rfl (by decide) (yr_move rfl rfl) ?_
    refine VL.r (.inr ⟨_, _, _, rfl, rfl, rfl⟩) rfl (by decide) (yr_len rfl Try.underlying50 rfl) ?_
    refine VL.r (.inr ⟨_, _, _, rfl, rfl, rfl⟩) rfl (by decide) (yr_icmp rfl (.inr (.inr (.inr (.inr (.inr rfl))))) rfl rfl) ?_
    refine VL.r (.inl rfl) rfl (by decide) (yr_pick_f rfl rfl rfl) ?_
    refine VL.nil ?_
    refine VE.then_wp ?_
    refine V.cond rfl (fun h3 => ?_) (fun h3 => ?_)
    · skip
      replace h3 := ic_geq h3
      refine V.seq ?_
      refine V.region ?_
      refine VL.r (.inl rfl) rfl (by decide) (yr_assign (u := .int .i64 0) rfl rfl) ?_
      refine VL.nil ?_
      refine VE.then_wp ?_
      refine V.ret ?_
      refine VE.then_ret ?_
      refine ret1 rfl rfl (fun w1 hw => ?_)
      first
        | exact ⟨⟨0, by omega⟩, rfl, hw.below, (fun _ h => by cases h), List.Pairwise.nil⟩
        | exact ⟨⟨(bs.getD k 0).toNat % m, Nat.mod_lt _ (by omega)⟩, rfl, hw.below, (fun _ h => by cases h), List.Pairwise.nil⟩
    · skip
      replace h3 := ic_geq' h3
      have hbn := byte_get hb (show k < bs.length by omega)
      refine V.skip ?_
      refine VE.then_wp ?_
      refine V.seq ?_
      refine V.region ?_
      refine VL.r (.inl rfl) rfl (by decide) (yr_move rfl rfl) ?_
      refine VL.r (.inl rfl) rfl (by decide) (yr_move rfl rfl) ?_
      refine VL.q (.inl rfl) rfl (by decide) (yq_idx (k := k) rfl Try.underlying50 sz5_Pm rfl rfl (by first | exact Sees.root (by assumption) | exact Sees.own (by repeat (first | exact List.mem_cons_self | exact List.mem_append_left _ (by assumption) | apply List.mem_cons_of_mem | apply List.mem_append_right)) | exact Sees.root (hR _ (by omega)) | exact Sees.own (RowsIn.mem (by repeat (first | exact RowsIn.here | exact RowsIn.last | apply RowsIn.there | apply RowsIn.thereS)) _ (by omega)) | exact Sees.own (WRowsIn.mem (by repeat (first | exact WRowsIn.here | exact WRowsIn.last | apply WRowsIn.there | apply WRowsIn.thereS)) _ (by omega))) (by first | rfl | omega | (push_cast; rfl) | (push_cast; omega) | exact tmod_nat _ _) (by exact bl_length _) (by omega)) ?_
      refine VL.q (.inl rfl) rfl (by decide) (yq_load (u := .int .u8 (bs.getD k 0)) rfl fb5_Pm rfl (by first | exact Sees.root (by assumption) | exact Sees.own (by repeat (first | exact List.mem_cons_self | exact List.mem_append_left _ (by assumption) | apply List.mem_cons_of_mem | apply List.mem_append_right)) | exact Sees.root (hR _ (by omega)) | exact Sees.own (RowsIn.mem (by repeat (first | exact RowsIn.here | exact RowsIn.last | apply RowsIn.there | apply RowsIn.thereS)) _ (by omega)) | exact Sees.own (WRowsIn.mem (by repeat (first | exact WRowsIn.here | exact WRowsIn.last | apply WRowsIn.there | apply WRowsIn.thereS)) _ (by omega))) (bl_get (by omega))) ?_
      refine VL.r (.inl rfl) rfl (by decide) (yr_intConv (r := bs.getD k 0) rfl Try.underlying5 Try.underlying2 rfl (wrap_in (by omega))) ?_
      refine VL.r (.inl rfl) rfl (by decide) (yr_move rfl rfl) ?_
      refine VL.r (.inl rfl) rfl (by decide) (yr_remN (bs.getD k 0).toNat m rfl rfl rfl (by rw [Int.toNat_of_nonneg hbn.1]) rfl (by omega)) ?_
      refine VL.r (.inl rfl) rfl (by decide) (yr_assign rfl rfl) ?_
      refine VL.nil ?_
      refine VE.then_wp ?_
      refine V.ret ?_
      refine ret1 rfl rfl (fun w1 hw => ?_)
      first
        | exact ⟨⟨0, by omega⟩, rfl, hw.below, (fun _ h => by cases h), List.Pairwise.nil⟩
        | exact ⟨⟨(bs.getD k 0).toNat % m, Nat.mod_lt _ (by omega)⟩, rfl, hw.below, (fun _ h => by cases h), List.Pairwise.nil⟩

theorem c_r8Gap {w : World} {x y : Nat} (hx : fnan .f64 (fop .sub .f64 x y) = false) (hy : fnan .f64 (fop .sub .f64 y x) = false) : Pure Try.prog 29 [.float .f64 x, .float .f64 y] w (.float .f64 (gap64 x y)) := by
  refine Pure.enter Try.func29 rfl Try.ntmps29 (Nat.le_of_ble_eq_true rfl) ?_
  refine V.seq ?_
  refine V.region ?_
  refine VL.r (.inl rfl) rfl (by decide) (yr_assign (u := .float .f64 0) rfl rfl) ?_
  refine VL.nil ?_
  refine VE.then_wp ?_
  refine V.seq ?_
  refine V.region ?_
  refine VL.r (.inl rfl) rfl (by decide) (yr_move rfl rfl) ?_
  refine VL.r (.inl rfl) rfl (by decide) (yr_move rfl rfl) ?_
  refine VL.r (.inl rfl) rfl (by decide) (yr_float rfl (.inr (.inl rfl)) rfl rfl) ?_
  refine VL.r (.inl rfl) rfl (by decide) (yr_move rfl rfl) ?_
  refine VL.r (.inl rfl) rfl (by decide) (yr_move rfl rfl) ?_
  refine VL.r (.inl rfl) rfl (by decide) (yr_float rfl (.inr (.inl rfl)) rfl rfl) ?_
  refine VL.r (.inl rfl) rfl (by decide) (yr_maxF (k := .f64) (fop .sub .f64 x y) [fop .sub .f64 y x] rfl (.cons rfl (.cons rfl .nil)) (nn2 hx hy)) ?_
  refine VL.r (.inl rfl) rfl (by decide) (yr_assign rfl rfl) ?_
  refine VL.nil ?_
  refine VE.then_wp ?_
  refine V.ret ?_
  refine ret1 rfl rfl (fun w1 hw => ?_)
  exact ⟨by unfold gap64; rfl, hw.below⟩

theorem c_sameVecR {w : World} {x1 x2 x3 : Nat} (hx : Can3 (x1, x2, x3)) : Pure Try.prog 64 [vv (x1, x2, x3), vv (x1, x2, x3)] w (.bool true) := by
  refine Pure.enter Try.func64 rfl Try.ntmps64 (Nat.le_of_ble_eq_true rfl) ?_
  refine V.seq ?_
  refine V.region ?_
  refine VL.new1 (.inl rfl) rfl (by decide) (yn_box rfl rfl (.inr ⟨rfl, rfl⟩)) ?_
  intro b2
  refine VL.new1 (.inl rfl) rfl (by decide) (yn_box rfl rfl (.inr ⟨rfl, rfl⟩)) ?_
  intro b3
  refine VL.r (.inl rfl) rfl (by decide) (yr_assign (u := .bool false) rfl rfl) ?_
  refine VL.nil ?_
  refine VE.then_wp ?_
  refine V.seq ?_
  refine V.region ?_
  refine VL.r (.inl rfl) rfl (by decide) (yr_fieldAddr rfl Try.underlying27 rfl rfl sz23_Pm (by decide) rfl) ?_
  refine VL.q (.inl rfl) rfl (by decide) (yq_load rfl fb23_Pm rfl (by first | exact Sees.root (by assumption) | exact Sees.own (by repeat (first | exact List.mem_cons_self | exact List.mem_append_left _ (by assumption) | apply List.mem_cons_of_mem | apply List.mem_append_right)) | exact Sees.root (hR _ (by omega)) | exact Sees.own (RowsIn.mem (by repeat (first | exact RowsIn.here | exact RowsIn.last | apply RowsIn.there | apply RowsIn.thereS)) _ (by omega)) | exact Sees.own (WRowsIn.mem (by repeat (first | exact WRowsIn.here | exact WRowsIn.last | apply WRowsIn.there | apply WRowsIn.thereS)) _ (by omega))) rfl) ?_
  refine VL.r (.inl rfl) rfl (by decide) (yr_fieldAddr rfl Try.underlying27 rfl rfl sz23_Pm (by decide) rfl) ?_
  refine VL.q (.inl rfl) rfl (by decide) (yq_load rfl fb23_Pm rfl (by first | exact Sees.root (by assumption) | exact Sees.own (by repeat (first | exact List.mem_cons_self | exact List.mem_append_left _ (by assumption) | apply List.mem_cons_of_mem | apply List.mem_append_right)) | exact Sees.root (hR _ (by omega)) | exact Sees.own (RowsIn.mem (by repeat (first | exact RowsIn.here | exact RowsIn.last | apply RowsIn.there | apply RowsIn.thereS)) _ (by omega)) | exact Sees.own (WRowsIn.mem (by repeat (first | exact WRowsIn.here | exact WRowsIn.last | apply WRowsIn.there | apply WRowsIn.thereS)) _ (by omega))) rfl) ?_
  refine VL.q (.inl rfl) rfl (by decide) (yq_callf rfl known65_Pm (.cons rfl (.cons rfl .nil)) (fun w hw => (c_SameNumber hx.1 hx.1))) ?_
  refine VL.r (.inl rfl) rfl (by decide) (yr_move rfl rfl) ?_
  refine VX.split 10 _ rfl (fun h1 => ?_) (fun h1 => ?_)
  · skip
    refine VL.r (.inr ⟨_, _, _, rfl, rfl, rfl⟩) rfl (by decide) (yr_fieldAddr rfl Try.underlying27 rfl rfl sz23_Pm (by decide) rfl) ?_
    refine VL.q (.inr ⟨_, _, _, rfl, rfl, rfl⟩) rfl (by decide) (yq_load rfl fb23_Pm rfl (by first | exact Sees.root (by assumption) | exact Sees.own (by repeat (first | exact List.mem_cons_self | exact List.mem_append_left _ (by assumption) | apply List.mem_cons_of_mem | apply List.mem_append_right)) | exact Sees.root (hR _ (by omega)) | exact Sees.own (RowsIn.mem (by repeat (first | exact RowsIn.here | exact RowsIn.last | apply RowsIn.there | apply RowsIn.thereS)) _ (by omega)) | exact Sees.own (WRowsIn.mem (by repeat (first | exact WRowsIn.here | exact WRowsIn.last | apply WRowsIn.there | apply WRowsIn.thereS)) _ (by omega))) rfl) ?_
    refine VL.r (.inr ⟨_, _, _, rfl, rfl, rfl⟩) rfl (by decide) (yr_fieldAddr rfl Try.underlying27 rfl rfl sz23_Pm (by decide) rfl) ?_
    refine VL.q (.inr ⟨_, _, _, rfl, rfl, rfl⟩) rfl (by decide) (yq_load rfl fb23_Pm rfl (by first | exact Sees.root (by assumption) | exact Sees.own (by repeat (first | exact List.mem_cons_self | exact List.mem_append_left _ (by assumption) | apply List.mem_cons_of_mem | apply List.mem_append_right)) | exact Sees.root (hR _ (by omega)) | exact Sees.own (RowsIn.mem (by repeat (first | exact RowsIn.here | exact RowsIn.last | apply RowsIn.there | apply RowsIn.thereS)) _ (by omega)) | exact Sees.own (WRowsIn.mem (by repeat (first | exact WRowsIn.here | exact WRowsIn.last | apply WRowsIn.there | apply WRowsIn.thereS)) _ (by omega))) rfl) ?_
    refine VL.q (.inr ⟨_, _, _, rfl, rfl, rfl⟩) rfl (by decide) (yq_callf rfl known65_Pm (.cons rfl (.cons rfl .nil)) (fun w hw => (c_SameNumber hx.2.1 hx.2.1))) ?_
    refine VL.r (.inl rfl) rfl (by decide) (yr_pick_t rfl rfl rfl) ?_
    refine VL.r (.inl rfl) rfl (by decide) (yr_move rfl rfl) ?_
    refine VX.split 17 _ rfl (fun h2 => ?_) (fun h2 => ?_)
    · skip
      refine VL.r (.inr ⟨_, _, _, rfl, rfl, rfl⟩) rfl (by decide) (yr_fieldAddr rfl Try.underlying27 rfl rfl sz23_Pm (by decide) rfl) ?_
      refine VL.q (.inr ⟨_, _, _, rfl, rfl, rfl⟩) rfl (by decide) (yq_load rfl fb23_Pm rfl (by first | exact Sees.root (by assumption) | exact Sees.own (by repeat (first | exact List.mem_cons_self | exact List.mem_append_left _ (by assumption) | apply List.mem_cons_of_mem | apply List.mem_append_right)) | exact Sees.root (hR _ (by omega)) | exact Sees.own (RowsIn.mem (by repeat (first | exact RowsIn.here | exact RowsIn.last | apply RowsIn.there | apply RowsIn.thereS)) _ (by omega)) | exact Sees.own (WRowsIn.mem (by repeat (first | exact WRowsIn.here | exact WRowsIn.last | apply WRowsIn.there | apply WRowsIn.thereS)) _ (by omega))) rfl) ?_
      refine VL.r (.inr ⟨_, _, _, rfl, rfl, rfl⟩) rfl (by decide) (yr_fieldAddr rfl Try.underlying27 rfl rfl sz23_Pm (by decide) rfl) ?_
      refine VL.q (.inr ⟨_, _, _, rfl, rfl, rfl⟩) rfl (by decide) (yq_load rfl fb23_Pm rfl (by first | exact Sees.root (by assumption) | exact Sees.own (by repeat (first | exact List.mem_cons_self | exact List.mem_append_left _ (by assumption) | apply List.mem_cons_of_mem | apply List.mem_append_right)) | exact Sees.root (hR _ (by omega)) | exact Sees.own (RowsIn.mem (by repeat (first | exact RowsIn.here | exact RowsIn.last | apply RowsIn.there | apply RowsIn.thereS)) _ (by omega)) | exact Sees.own (WRowsIn.mem (by repeat (first | exact WRowsIn.here | exact WRowsIn.last | apply WRowsIn.there | apply WRowsIn.thereS)) _ (by omega))) rfl) ?_
      refine VL.q (.inr ⟨_, _, _, rfl, rfl, rfl⟩) rfl (by decide) (yq_callf rfl known65_Pm (.cons rfl (.cons rfl .nil)) (fun w hw => (c_SameNumber hx.2.2 hx.2.2))) ?_
      refine VL.r (.inl rfl) rfl (by decide) (yr_pick_t rfl rfl rfl) ?_
      refine VL.r (.inl rfl) rfl (by decide) (yr_assign rfl rfl) ?_
      refine VL.nil ?_
      refine VE.then_wp ?_
      refine V.ret ?_
      refine ret1 rfl rfl (fun w1 hw => ?_)
      exact ⟨congrArg Value.bool (by simp), hw.below⟩
    · skip
      simp at h2
  · skip
    simp at h1

theorem c_shapeR {w : World} {f1 f2 f3 st g1 g2 g3 t : Nat} {wi hi de : Int} {a b : Option Addr} {m c n d : Nat} : Pure Try.prog 66 [.agg #[.float .f32 f1, .float .f32 f2, .float .f32 f3, .float .f32 st, .int .i64 wi, .int .i64 hi, .int .i64 de, .slice a m c], .agg #[.float .f32 g1, .float .f32 g2, .float .f32 g3, .float .f32 t, .int .i64 wi, .int .i64 hi, .int .i64 de, .slice b n d]] w (.bool true) := by
  refine Pure.enter Try.func66 rfl Try.ntmps66 (Nat.le_of_ble_eq_true rfl) ?_
  refine V.seq ?_
  refine V.region ?_
  refine VL.new1 (.inl rfl) rfl (by decide) (yn_box rfl rfl (.inr ⟨rfl, rfl⟩)) ?_
  intro b2
  refine VL.new1 (.inl rfl) rfl (by decide) (yn_box rfl rfl (.inr ⟨rfl, rfl⟩)) ?_
  intro b3
  refine VL.r (.inl rfl) rfl (by decide) (yr_assign (u := .bool false) rfl rfl) ?_
  refine VL.nil ?_
  refine VE.then_wp ?_
  refine V.seq ?_
  refine V.region ?_
  refine VL.r (.inl rfl) rfl (by decide) (yr_fieldAddr rfl Try.underlying30 rfl rfl sz2_Pm (by decide) rfl) ?_
  refine VL.q (.inl rfl) rfl (by decide) (yq_load rfl fb2_Pm rfl (by first | exact Sees.root (by assumption) | exact Sees.own (by repeat (first | exact List.mem_cons_self | exact List.mem_append_left _ (by assumption) | apply List.mem_cons_of_mem | apply List.mem_append_right)) | exact Sees.root (hR _ (by omega)) | exact Sees.own (RowsIn.mem (by repeat (first | exact RowsIn.here | exact RowsIn.last | apply RowsIn.there | apply RowsIn.thereS)) _ (by omega)) | exact Sees.own (WRowsIn.mem (by repeat (first | exact WRowsIn.here | exact WRowsIn.last | apply WRowsIn.there | apply WRowsIn.thereS)) _ (by omega))) rfl) ?_
  refine VL.r (.inl rfl) rfl (by decide) (yr_fieldAddr rfl Try.underlying30 rfl rfl sz2_Pm (by decide) rfl) ?_
  refine VL.q (.inl rfl) rfl (by decide) (yq_load rfl fb2_Pm rfl (by first | exact Sees.root (by assumption) | exact Sees.own (by repeat (first | exact List.mem_cons_self | exact List.mem_append_left _ (by assumption) | apply List.mem_cons_of_mem | apply List.mem_append_right)) | exact Sees.root (hR _ (by omega)) | exact Sees.own (RowsIn.mem (by repeat (first | exact RowsIn.here | exact RowsIn.last | apply RowsIn.there | apply RowsIn.thereS)) _ (by omega)) | exact Sees.own (WRowsIn.mem (by repeat (first | exact WRowsIn.here | exact WRowsIn.last | apply WRowsIn.there | apply WRowsIn.thereS)) _ (by omega))) rfl) ?_
  refine VL.r (.inl rfl) rfl (by decide) (yr_icmp rfl (.inl rfl) rfl rfl) ?_
  refine VL.r (.inl rfl) rfl (by decide) (yr_move rfl rfl) ?_
  refine VX.split 10 _ rfl (fun h1 => ?_) (fun h1 => ?_)
  · skip
    replace h1 := ic_eql h1
    refine VL.r (.inr ⟨_, _, _, rfl, rfl, rfl⟩) rfl (by decide) (yr_fieldAddr rfl Try.underlying30 rfl rfl sz2_Pm (by decide) rfl) ?_
    refine VL.q (.inr ⟨_, _, _, rfl, rfl, rfl⟩) rfl (by decide) (yq_load rfl fb2_Pm rfl (by first | exact Sees.root (by assumption) | exact Sees.own (by repeat (first | exact List.mem_cons_self | exact List.mem_append_left _ (by assumption) | apply List.mem_cons_of_mem | apply List.mem_append_right)) | exact Sees.root (hR _ (by omega)) | exact Sees.own (RowsIn.mem (by repeat (first | exact RowsIn.here | exact RowsIn.last | apply RowsIn.there | apply RowsIn.thereS)) _ (by omega)) | exact Sees.own (WRowsIn.mem (by repeat (first | exact WRowsIn.here | exact WRowsIn.last | apply WRowsIn.there | apply WRowsIn.thereS)) _ (by omega))) rfl) ?_
    refine VL.r (.inr ⟨_, _, _, rfl, rfl, rfl⟩) rfl (by decide) (yr_fieldAddr rfl Try.underlying30 rfl rfl sz2_Pm (by decide) rfl) ?_
    refine VL.q (.inr ⟨_, _, _, rfl, rfl, rfl⟩) rfl (by decide) (yq_load rfl fb2_Pm rfl (by first | exact Sees.root (by assumption) | exact Sees.own (by repeat (first | exact List.mem_cons_self | exact List.mem_append_left _ (by assumption) | apply List.mem_cons_of_mem | apply List.mem_append_right)) | exact Sees.root (hR _ (by omega)) | exact Sees.own (RowsIn.mem (by repeat (first | exact RowsIn.here | exact RowsIn.last | apply RowsIn.there | apply RowsIn.thereS)) _ (by omega)) | exact Sees.own (WRowsIn.mem (by repeat (first | exact WRowsIn.here | exact WRowsIn.last | apply WRowsIn.there | apply WRowsIn.thereS)) _ (by omega))) rfl) ?_
    refine VL.r (.inr ⟨_, _, _, rfl, rfl, rfl⟩) rfl (by decide) (yr_icmp rfl (.inl rfl) rfl rfl) ?_
    refine VL.r (.inl rfl) rfl (by decide) (yr_pick_t rfl rfl rfl) ?_
    refine VL.r (.inl rfl) rfl (by decide) (yr_move rfl rfl) ?_
    refine VX.split 17 _ rfl (fun h2 => ?_) (fun h2 => ?_)
    · skip
      replace h2 := ic_eql h2
      refine VL.r (.inr ⟨_, _, _, rfl, rfl, rfl⟩) rfl (by decide) (yr_fieldAddr rfl Try.underlying30 rfl rfl sz2_Pm (by decide) rfl) ?_
      refine VL.q (.inr ⟨_, _, _, rfl, rfl, rfl⟩) rfl (by decide) (yq_load rfl fb2_Pm rfl (by first | exact Sees.root (by assumption) | exact Sees.own (by repeat (first | exact List.mem_cons_self | exact List.mem_append_left _ (by assumption) | apply List.mem_cons_of_mem | apply List.mem_append_right)) | exact Sees.root (hR _ (by omega)) | exact Sees.own (RowsIn.mem (by repeat (first | exact RowsIn.here | exact RowsIn.last | apply RowsIn.there | apply RowsIn.thereS)) _ (by omega)) | exact Sees.own (WRowsIn.mem (by repeat (first | exact WRowsIn.here | exact WRowsIn.last | apply WRowsIn.there | apply WRowsIn.thereS)) _ (by omega))) rfl) ?_
      refine VL.r (.inr ⟨_, _, _, rfl, rfl, rfl⟩) rfl (by decide) (yr_fieldAddr rfl Try.underlying30 rfl rfl sz2_Pm (by decide) rfl) ?_
      refine VL.q (.inr ⟨_, _, _, rfl, rfl, rfl⟩) rfl (by decide) (yq_load rfl fb2_Pm rfl (by first | exact Sees.root (by assumption) | exact Sees.own (by repeat (first | exact List.mem_cons_self | exact List.mem_append_left _ (by assumption) | apply List.mem_cons_of_mem | apply List.mem_append_right)) | exact Sees.root (hR _ (by omega)) | exact Sees.own (RowsIn.mem (by repeat (first | exact RowsIn.here | exact RowsIn.last | apply RowsIn.there | apply RowsIn.thereS)) _ (by omega)) | exact Sees.own (WRowsIn.mem (by repeat (first | exact WRowsIn.here | exact WRowsIn.last | apply WRowsIn.there | apply WRowsIn.thereS)) _ (by omega))) rfl) ?_
      refine VL.r (.inr ⟨_, _, _, rfl, rfl, rfl⟩) rfl (by decide) (yr_icmp rfl (.inl rfl) rfl rfl) ?_
      refine VL.r (.inl rfl) rfl (by decide) (yr_pick_t rfl rfl rfl) ?_
      refine VL.r (.inl rfl) rfl (by decide) (yr_assign rfl rfl) ?_
      refine VL.nil ?_
      refine VE.then_wp ?_
      refine V.ret ?_
      refine ret1 rfl rfl (fun w1 hw => ?_)
      exact ⟨congrArg Value.bool (by simp [icmp]), hw.below⟩
    · skip
      replace h2 := ic_eql' h2
      exact absurd rfl h2
  · skip
    replace h1 := ic_eql' h1
    exact absurd rfl h1

theorem c_eqfV {w : World} {a b : Option Addr} {c d : Nat} {vs : List V3} {g : FuncId} {cs : Array Value} (hA : Cl w a (vl vs)) (hB : Cl w b (vl vs)) (hg : Known Try.prog g) (hF : ∀ w', Below w.heap.size w w' → ∀ k, k < vs.length → Pure Try.prog g ([vv (vs.getD k z3), vv (vs.getD k z3)] ++ cs.toList.map cn) w' (.bool true)) (hn : vs.length ≤ 1050000) : Pure Try.prog 67 [.slice a vs.length c, .slice b vs.length d, .func (.func g) #[] cs] w (.bool true) := by
  refine Pure.enter Try.func67 rfl Try.ntmps67 (Nat.le_of_ble_eq_true rfl) ?_
  refine V.seq ?_
  refine V.region ?_
  refine VL.r (.inl rfl) rfl (by decide) (yr_assign (u := .bool false) rfl rfl) ?_
  refine VL.nil ?_
  refine VE.then_wp ?_
  refine V.seq ?_
  refine V.seq ?_
  refine V.region ?_
  refine VL.r (.inl rfl) rfl (by decide) (yr_move rfl rfl) ?_
  refine VL.r (.inl rfl) rfl (by decide) (yr_len rfl Try.underlying28 rfl) ?_
  refine VL.r (.inl rfl) rfl (by decide) (yr_move rfl rfl) ?_
  refine VL.r (.inl rfl) rfl (by decide) (yr_len rfl Try.underlying28 rfl) ?_
  refine VL.r (.inl rfl) rfl (by decide) (yr_icmp rfl (.inr (.inl rfl)) rfl rfl) ?_
  refine VL.nil ?_
  refine VE.then_wp ?_
  refine V.cond rfl (fun h1 => ?_) (fun h1 => ?_)
  · skip
    replace h1 := ic_neq h1
    exact absurd rfl h1
  · skip
    replace h1 := ic_neq' h1
    refine V.skip ?_
    refine VE.then_wp ?_
    refine V.seq ?_
    refine V.seq ?_
    refine V.region ?_
    refine VL.r (.inl rfl) rfl (by decide) (yr_move rfl rfl) ?_
    refine VL.r (.inl rfl) rfl (by decide) (yr_len rfl Try.underlying28 rfl) ?_
    refine VL.r (.inl rfl) rfl (by decide) (yr_move (u := .int .i64 0) rfl rfl) ?_
    refine VL.nil ?_
    refine VE.then_wp ?_
    refine V.block ?_
    refine V.loopc (G := Nat) [(1, _), (2, _), (15, _), (16, _)] (fun (k : Nat) => k ≤ vs.length) (fun (k : Nat) => []) (fun (k : Nat) => [(17, .int .i64 (k : Int))]) (fun (k : Nat) => vs.length - k) 0 (.cons rfl (.cons rfl (.cons rfl (.cons rfl .nil)))) (.cons rfl .nil) ?_ ?_ ?_
    · exact (fun w hw => hw)
    · exact (Nat.zero_le _)
    rintro k hk
    show V _ _ _ [] ([(17, .int .i64 (k : Int))] ++ [(1, _), (2, _), (15, _), (16, _)]) _ _
    refine V.seq ?_
    refine V.region ?_
    refine VL.r (.inl rfl) rfl (by decide) (yr_icmp rfl (.inr (.inr (.inl rfl))) rfl rfl) ?_
    refine VL.nil ?_
    refine VE.then_wp ?_
    refine V.seq ?_
    refine V.cond rfl (fun h2 => ?_) (fun h2 => ?_)
    · skip
      replace h2 := ic_lss h2
      refine V.skip ?_
      refine VE.then_wp ?_
      refine V.seq ?_
      refine V.block ?_
      refine V.seq ?_
      refine V.region ?_
      refine VL.r (.inl rfl) rfl (by decide) (yr_move rfl rfl) ?_
      refine VL.q (.inl rfl) rfl (by decide) (yq_idxN (k := k) rfl Try.underlying28 sz27_Pm rfl rfl (by first | exact Sees.root (by assumption) | exact Sees.own (by repeat (first | exact List.mem_cons_self | exact List.mem_append_left _ (by assumption) | apply List.mem_cons_of_mem | apply List.mem_append_right)) | exact Sees.root (hR _ (by omega)) | exact Sees.own (RowsIn.mem (by repeat (first | exact RowsIn.here | exact RowsIn.last | apply RowsIn.there | apply RowsIn.thereS)) _ (by omega)) | exact Sees.own (WRowsIn.mem (by repeat (first | exact WRowsIn.here | exact WRowsIn.last | apply WRowsIn.there | apply WRowsIn.thereS)) _ (by omega))) (by first | rfl | omega | (push_cast; rfl) | (push_cast; omega) | exact tmod_nat _ _) (by exact vl_length _) (by decide) (by omega)) ?_
      refine VL.q (.inl rfl) rfl (by decide) (yq_loadV rfl Try.underlying27 sz27_Pm rfl (by first | exact Sees.root (by assumption) | exact Sees.own (by repeat (first | exact List.mem_cons_self | exact List.mem_append_left _ (by assumption) | apply List.mem_cons_of_mem | apply List.mem_append_right)) | exact Sees.root (hR _ (by omega)) | exact Sees.own (RowsIn.mem (by repeat (first | exact RowsIn.here | exact RowsIn.last | apply RowsIn.there | apply RowsIn.thereS)) _ (by omega)) | exact Sees.own (WRowsIn.mem (by repeat (first | exact WRowsIn.here | exact WRowsIn.last | apply WRowsIn.there | apply WRowsIn.thereS)) _ (by omega))) (by omega)) ?_
      refine VL.new1 (.inl rfl) rfl (by decide) (yn_alloc rfl zero27_Pm rfl) ?_
      intro b8
      refine VL.r (.inl rfl) rfl (by decide) (yr_assign rfl rfl) ?_
      refine VL.s (.inl rfl) rfl (yc_store rfl sz27_Pm rfl rfl (by repeat (first | exact UpdF.here | apply UpdF.there | apply UpdF.thereS)) (.inr ⟨rfl, rfl⟩) rfl (by first | exact Nat.le_of_ble_eq_true rfl | simp) (by decide) rfl) ?_
      rintro ⟨⟩
      refine VL.nil ?_
      refine VE.then_wp ?_
      refine V.seq ?_
      refine V.region ?_
      refine VL.r (.inl rfl) rfl (by decide) (yr_move rfl rfl) ?_
      refine VL.r (.inl rfl) rfl (by decide) (yr_move rfl rfl) ?_
      refine VL.q (.inl rfl) rfl (by decide) (yq_idxN (k := k) rfl Try.underlying28 sz27_Pm rfl rfl (by first | exact Sees.root (by assumption) | exact Sees.own (by repeat (first | exact List.mem_cons_self | exact List.mem_append_left _ (by assumption) | apply List.mem_cons_of_mem | apply List.mem_append_right)) | exact Sees.root (hR _ (by omega)) | exact Sees.own (RowsIn.mem (by repeat (first | exact RowsIn.here | exact RowsIn.last | apply RowsIn.there | apply RowsIn.thereS)) _ (by omega)) | exact Sees.own (WRowsIn.mem (by repeat (first | exact WRowsIn.here | exact WRowsIn.last | apply WRowsIn.there | apply WRowsIn.thereS)) _ (by omega))) (by first | rfl | omega | (push_cast; rfl) | (push_cast; omega) | exact tmod_nat _ _) (by exact vl_length _) (by decide) (by omega)) ?_
      refine VL.q (.inl rfl) rfl (by decide) (yq_loadV rfl Try.underlying27 sz27_Pm rfl (by first | exact Sees.root (by assumption) | exact Sees.own (by repeat (first | exact List.mem_cons_self | exact List.mem_append_left _ (by assumption) | apply List.mem_cons_of_mem | apply List.mem_append_right)) | exact Sees.root (hR _ (by omega)) | exact Sees.own (RowsIn.mem (by repeat (first | exact RowsIn.here | exact RowsIn.last | apply RowsIn.there | apply RowsIn.thereS)) _ (by omega)) | exact Sees.own (WRowsIn.mem (by repeat (first | exact WRowsIn.here | exact WRowsIn.last | apply WRowsIn.there | apply WRowsIn.thereS)) _ (by omega))) (by omega)) ?_
      refine VL.new1 (.inl rfl) rfl (by decide) (yn_alloc rfl zero27_Pm rfl) ?_
      intro b9
      refine VL.s (.inl rfl) rfl (yc_store rfl sz27_Pm rfl rfl (by repeat (first | exact UpdF.here | apply UpdF.there | apply UpdF.thereS)) (.inr ⟨rfl, rfl⟩) rfl (by first | exact Nat.le_of_ble_eq_true rfl | simp) (by decide) rfl) ?_
      rintro ⟨⟩
      refine VL.nil ?_
      refine VE.then_wp ?_
      refine V.seq ?_
      refine V.region ?_
      refine VL.r (.inl rfl) rfl (by decide) (yr_move rfl rfl) ?_
      refine VL.q (.inl rfl) rfl (by decide) (yq_loadS rfl Try.underlying27 sz27_Pm rfl (by first | exact Sees.root (by assumption) | exact Sees.own (by repeat (first | exact List.mem_cons_self | exact List.mem_append_left _ (by assumption) | apply List.mem_cons_of_mem | apply List.mem_append_right)) | exact Sees.root (hR _ (by omega)) | exact Sees.own (RowsIn.mem (by repeat (first | exact RowsIn.here | exact RowsIn.last | apply RowsIn.there | apply RowsIn.thereS)) _ (by omega)) | exact Sees.own (WRowsIn.mem (by repeat (first | exact WRowsIn.here | exact WRowsIn.last | apply WRowsIn.there | apply WRowsIn.thereS)) _ (by omega))) rfl rfl rfl) ?_
      refine VL.q (.inl rfl) rfl (by decide) (yq_loadS rfl Try.underlying27 sz27_Pm rfl (by first | exact Sees.root (by assumption) | exact Sees.own (by repeat (first | exact List.mem_cons_self | exact List.mem_append_left _ (by assumption) | apply List.mem_cons_of_mem | apply List.mem_append_right)) | exact Sees.root (hR _ (by omega)) | exact Sees.own (RowsIn.mem (by repeat (first | exact RowsIn.here | exact RowsIn.last | apply RowsIn.there | apply RowsIn.thereS)) _ (by omega)) | exact Sees.own (WRowsIn.mem (by repeat (first | exact WRowsIn.here | exact WRowsIn.last | apply WRowsIn.there | apply WRowsIn.thereS)) _ (by omega))) rfl rfl rfl) ?_
      refine VL.q (.inl rfl) rfl (by decide) (yq_call rfl hg rfl (.cons rfl (.cons rfl .nil)) (fun w hw => hF w hw.below k (by omega))) ?_
      refine VL.r (.inl rfl) rfl (by decide) (yr_not rfl rfl) ?_
      refine VL.nil ?_
      refine VE.then_wp ?_
      refine V.cond rfl (fun h3 => ?_) (fun h3 => ?_)
      · skip
        replace h3 := bnot_t h3
        cases h3
      · skip
        replace h3 := bnot_f h3
        refine V.skip ?_
        refine VE.block_normal ?_
        refine VE.then_wp ?_
        refine V.region ?_
        refine VL.r (.inl rfl) rfl (by decide) (yr_int rfl rfl rfl (.inl ⟨rfl, wrap_in (by omega)⟩)) ?_
        refine VL.r (.inl rfl) rfl (by decide) (yr_move rfl rfl) ?_
        refine VL.nil ?_
        refine VE.round (k + 1) ?_ ?_ ?_ ?_ ?_
        · exact (.cons rfl .nil)
        · exact (.cons rfl (.cons rfl (.cons rfl (.cons rfl .nil))))
        · exact (fun w hw => hw.sub (List.nil_sublist _))
        · omega
        · (try dsimp only); omega
    · skip
      replace h2 := ic_lss' h2
      refine V.exit ?_
      refine VE.then_exit ?_
      refine VE.then_exit ?_
      refine VE.block_here ?_
      refine VE.then_wp ?_
      refine V.seq ?_
      refine V.region ?_
      refine VL.r (.inl rfl) rfl (by decide) (yr_assign (u := .bool true) rfl rfl) ?_
      refine VL.nil ?_
      refine VE.then_wp ?_
      refine V.ret ?_
      refine ret1 rfl rfl (fun w1 hw => ?_)
      exact ⟨rfl, hw.below⟩

theorem c_sameMeshR {w : World} {f1 f2 f3 st : Nat} {wi hi de : Int} {a : Option Addr} {c : Nat} {vs : List V3} {b : Option Addr} {d : Nat} (hA : Cl w a (vl vs)) (hB : Cl w b (vl vs)) (hX : Cans3 vs) (hf : Can3 (f1, f2, f3)) (hst : Can .f32 st) (hn : vs.length ≤ 1050000) : Pure Try.prog 27 [.agg #[.float .f32 f1, .float .f32 f2, .float .f32 f3, .float .f32 st, .int .i64 wi, .int .i64 hi, .int .i64 de, .slice a vs.length c], .agg #[.float .f32 f1, .float .f32 f2, .float .f32 f3, .float .f32 st, .int .i64 wi, .int .i64 hi, .int .i64 de, .slice b vs.length d]] w (.bool true) := by
  refine Pure.enter Try.func27 rfl Try.ntmps27 (Nat.le_of_ble_eq_true rfl) ?_
  refine V.seq ?_
  refine V.region ?_
  refine VL.new1 (.inl rfl) rfl (by decide) (yn_box rfl rfl (.inr ⟨rfl, rfl⟩)) ?_
  intro b2
  refine VL.new1 (.inl rfl) rfl (by decide) (yn_box rfl rfl (.inr ⟨rfl, rfl⟩)) ?_
  intro b3
  refine VL.r (.inl rfl) rfl (by decide) (yr_assign (u := .bool false) rfl rfl) ?_
  refine VL.nil ?_
  refine VE.then_wp ?_
  refine V.seq ?_
  refine V.region ?_
  refine VL.r (.inl rfl) rfl (by decide) (yr_fieldAddr rfl Try.underlying30 rfl rfl sz27_Pm (by decide) rfl) ?_
  refine VL.q (.inl rfl) rfl (by decide) (yq_loadS rfl Try.underlying27 sz27_Pm rfl (by first | exact Sees.root (by assumption) | exact Sees.own (by repeat (first | exact List.mem_cons_self | exact List.mem_append_left _ (by assumption) | apply List.mem_cons_of_mem | apply List.mem_append_right)) | exact Sees.root (hR _ (by omega)) | exact Sees.own (RowsIn.mem (by repeat (first | exact RowsIn.here | exact RowsIn.last | apply RowsIn.there | apply RowsIn.thereS)) _ (by omega)) | exact Sees.own (WRowsIn.mem (by repeat (first | exact WRowsIn.here | exact WRowsIn.last | apply WRowsIn.there | apply WRowsIn.thereS)) _ (by omega))) rfl rfl rfl) ?_
  refine VL.r (.inl rfl) rfl (by decide) (yr_fieldAddr rfl Try.underlying30 rfl rfl sz27_Pm (by decide) rfl) ?_
  refine VL.q (.inl rfl) rfl (by decide) (yq_loadS rfl Try.underlying27 sz27_Pm rfl (by first | exact Sees.root (by assumption) | exact Sees.own (by repeat (first | exact List.mem_cons_self | exact List.mem_append_left _ (by assumption) | apply List.mem_cons_of_mem | apply List.mem_append_right)) | exact Sees.root (hR _ (by omega)) | exact Sees.own (RowsIn.mem (by repeat (first | exact RowsIn.here | exact RowsIn.last | apply RowsIn.there | apply RowsIn.thereS)) _ (by omega)) | exact Sees.own (WRowsIn.mem (by repeat (first | exact WRowsIn.here | exact WRowsIn.last | apply WRowsIn.there | apply WRowsIn.thereS)) _ (by omega))) rfl rfl rfl) ?_
  refine VL.q (.inl rfl) rfl (by decide) (yq_callf rfl known64_Pm (.cons rfl (.cons rfl .nil)) (fun w hw => (c_sameVecR hf))) ?_
  refine VL.r (.inl rfl) rfl (by decide) (yr_move rfl rfl) ?_
  refine VX.split 10 _ rfl (fun h1 => ?_) (fun h1 => ?_)
  · skip
    refine VL.r (.inr ⟨_, _, _, rfl, rfl, rfl⟩) rfl (by decide) (yr_fieldAddr rfl Try.underlying30 rfl rfl sz23_Pm (by decide) rfl) ?_
    refine VL.q (.inr ⟨_, _, _, rfl, rfl, rfl⟩) rfl (by decide) (yq_load rfl fb23_Pm rfl (by first | exact Sees.root (by assumption) | exact Sees.own (by repeat (first | exact List.mem_cons_self | exact List.mem_append_left _ (by assumption) | apply List.mem_cons_of_mem | apply List.mem_append_right)) | exact Sees.root (hR _ (by omega)) | exact Sees.own (RowsIn.mem (by repeat (first | exact RowsIn.here | exact RowsIn.last | apply RowsIn.there | apply RowsIn.thereS)) _ (by omega)) | exact Sees.own (WRowsIn.mem (by repeat (first | exact WRowsIn.here | exact WRowsIn.last | apply WRowsIn.there | apply WRowsIn.thereS)) _ (by omega))) rfl) ?_
    refine VL.r (.inr ⟨_, _, _, rfl, rfl, rfl⟩) rfl (by decide) (yr_fieldAddr rfl Try.underlying30 rfl rfl sz23_Pm (by decide) rfl) ?_
    refine VL.q (.inr ⟨_, _, _, rfl, rfl, rfl⟩) rfl (by decide) (yq_load rfl fb23_Pm rfl (by first | exact Sees.root (by assumption) | exact Sees.own (by repeat (first | exact List.mem_cons_self | exact List.mem_append_left _ (by assumption) | apply List.mem_cons_of_mem | apply List.mem_append_right)) | exact Sees.root (hR _ (by omega)) | exact Sees.own (RowsIn.mem (by repeat (first | exact RowsIn.here | exact RowsIn.last | apply RowsIn.there | apply RowsIn.thereS)) _ (by omega)) | exact Sees.own (WRowsIn.mem (by repeat (first | exact WRowsIn.here | exact WRowsIn.last | apply WRowsIn.there | apply WRowsIn.thereS)) _ (by omega))) rfl) ?_
    refine VL.q (.inr ⟨_, _, _, rfl, rfl, rfl⟩) rfl (by decide) (yq_callf rfl known65_Pm (.cons rfl (.cons rfl .nil)) (fun w hw => (c_SameNumber hst hst))) ?_
    refine VL.r (.inl rfl) rfl (by decide) (yr_pick_t rfl rfl rfl) ?_
    refine VL.r (.inl rfl) rfl (by decide) (yr_move rfl rfl) ?_
    refine VX.split 17 _ rfl (fun h2 => ?_) (fun h2 => ?_)
    · skip
      refine VL.q (.inr ⟨_, _, _, rfl, rfl, rfl⟩) rfl (by decide) (yq_loadS rfl Try.underlying30 sz30_Pm rfl (by first | exact Sees.root (by assumption) | exact Sees.own (by repeat (first | exact List.mem_cons_self | exact List.mem_append_left _ (by assumption) | apply List.mem_cons_of_mem | apply List.mem_append_right)) | exact Sees.root (hR _ (by omega)) | exact Sees.own (RowsIn.mem (by repeat (first | exact RowsIn.here | exact RowsIn.last | apply RowsIn.there | apply RowsIn.thereS)) _ (by omega)) | exact Sees.own (WRowsIn.mem (by repeat (first | exact WRowsIn.here | exact WRowsIn.last | apply WRowsIn.there | apply WRowsIn.thereS)) _ (by omega))) rfl rfl rfl) ?_
      refine VL.q (.inr ⟨_, _, _, rfl, rfl, rfl⟩) rfl (by decide) (yq_loadS rfl Try.underlying30 sz30_Pm rfl (by first | exact Sees.root (by assumption) | exact Sees.own (by repeat (first | exact List.mem_cons_self | exact List.mem_append_left _ (by assumption) | apply List.mem_cons_of_mem | apply List.mem_append_right)) | exact Sees.root (hR _ (by omega)) | exact Sees.own (RowsIn.mem (by repeat (first | exact RowsIn.here | exact RowsIn.last | apply RowsIn.there | apply RowsIn.thereS)) _ (by omega)) | exact Sees.own (WRowsIn.mem (by repeat (first | exact WRowsIn.here | exact WRowsIn.last | apply WRowsIn.there | apply WRowsIn.thereS)) _ (by omega))) rfl rfl rfl) ?_
      refine VL.q (.inr ⟨_, _, _, rfl, rfl, rfl⟩) rfl (by decide) (yq_callf rfl known66_Pm (.cons rfl (.cons rfl .nil)) (fun w hw => c_shapeR)) ?_
      refine VL.r (.inl rfl) rfl (by decide) (yr_pick_t rfl rfl rfl) ?_
      refine VL.r (.inl rfl) rfl (by decide) (yr_move rfl rfl) ?_
      refine VX.split 22 _ rfl (fun h3 => ?_) (fun h3 => ?_)
      · skip
        refine VL.r (.inr ⟨_, _, _, rfl, rfl, rfl⟩) rfl (by decide) (yr_fieldAddr rfl Try.underlying30 rfl rfl sz28_Pm (by decide) rfl) ?_
        refine VL.q (.inr ⟨_, _, _, rfl, rfl, rfl⟩) rfl (by decide) (yq_load rfl fb28_Pm rfl (by first | exact Sees.root (by assumption) | exact Sees.own (by repeat (first | exact List.mem_cons_self | exact List.mem_append_left _ (by assumption) | apply List.mem_cons_of_mem | apply List.mem_append_right)) | exact Sees.root (hR _ (by omega)) | exact Sees.own (RowsIn.mem (by repeat (first | exact RowsIn.here | exact RowsIn.last | apply RowsIn.there | apply RowsIn.thereS)) _ (by omega)) | exact Sees.own (WRowsIn.mem (by repeat (first | exact WRowsIn.here | exact WRowsIn.last | apply WRowsIn.there | apply WRowsIn.thereS)) _ (by omega))) rfl) ?_
        refine VL.r (.inr ⟨_, _, _, rfl, rfl, rfl⟩) rfl (by decide) (yr_fieldAddr rfl Try.underlying30 rfl rfl sz28_Pm (by decide) rfl) ?_
        refine VL.q (.inr ⟨_, _, _, rfl, rfl, rfl⟩) rfl (by decide) (yq_load rfl fb28_Pm rfl (by first | exact Sees.root (by assumption) | exact Sees.own (by repeat (first | exact List.mem_cons_self | exact List.mem_append_left _ (by assumption) | apply List.mem_cons_of_mem | apply List.mem_append_right)) | exact Sees.root (hR _ (by omega)) | exact Sees.own (RowsIn.mem (by repeat (first | exact RowsIn.here | exact RowsIn.last | apply RowsIn.there | apply RowsIn.thereS)) _ (by omega)) | exact Sees.own (WRowsIn.mem (by repeat (first | exact WRowsIn.here | exact WRowsIn.last | apply WRowsIn.there | apply WRowsIn.thereS)) _ (by omega))) rfl) ?_
        refine VL.q (.inr ⟨_, _, _, rfl, rfl, rfl⟩) rfl (by decide) (yq_callf rfl known67_Pm (.cons rfl (.cons rfl (.cons rfl .nil))) (fun w hw => (c_eqfV (by first | exact Sees.root (by assumption) w hw | exact Sees.own (by repeat (first | exact List.mem_cons_self | exact List.mem_append_left _ (by assumption) | apply List.mem_cons_of_mem | apply List.mem_append_right)) w hw) (by first | exact Sees.root (by assumption) w hw | exact Sees.own (by repeat (first | exact List.mem_cons_self | exact List.mem_append_left _ (by assumption) | apply List.mem_cons_of_mem | apply List.mem_append_right)) w hw) known64_Pm (fun w1 _ k hk => c_sameVecR (hX.row hk)) hn))) ?_
        refine VL.r (.inl rfl) rfl (by decide) (yr_pick_t rfl rfl rfl) ?_
        refine VL.r (.inl rfl) rfl (by decide) (yr_assign rfl rfl) ?_
        refine VL.nil ?_
        refine VE.then_wp ?_
        refine V.ret ?_
        refine ret1 rfl rfl (fun w1 hw => ?_)
        exact ⟨rfl, hw.below⟩
      · skip
        cases h3
    · skip
      simp at h2
  · skip
    cases h1

theorem c_rmT {w : World} {T : ByteArray} {a : Option Addr} {c : Nat} (hT : pkT ((unG T).1, (unG T).2.1, (unG T).2.2) (unS T) (unI T 4) (unI T 5) (unI T 6) (unR T) = T) (hA : Cl w a (vl (unR T))) : New Try.prog 23 [.agg #[.float .f32 (unG T).1, .float .f32 (unG T).2.1, .float .f32 (unG T).2.2, .float .f32 (unS T), .int .i64 (unI T 4), .int .i64 (unI T 5), .int .i64 (unI T 6), .slice a (unR T).length c]] w (fun p : Option Addr × Nat => unRes T p) (fun p => [⟨p.1, vl (unR T), p.2 * 3, 27⟩]) := by
  have h := c_implRM (w := w) (f1 := (unG T).1) (f2 := (unG T).2.1) (f3 := (unG T).2.2) (st := unS T) (wi := unI T 4) (hi := unI T 5) (de := unI T 6) (a := a) (c := c) (vs := unR T) hA cans_unR can_unG can_unS
  rw [hT] at h
  exact h
theorem c_rm0 {w : World} {T : ByteArray} {k W H D : Nat} {vs : List V3} {a : Option Addr} {c : Nat} (hT : pkT (hqw k, 0, 0) 1056964608 (W : Int) (H : Int) (D : Int) vs = T) (hA : Cl w a (vl vs)) (hX : Cans3 vs) (hf : Can3 (hqw k, 0, 0)) : New Try.prog 23 [.agg #[.float .f32 (hqw k), .float .f32 0, .float .f32 0, .float .f32 1056964608, .int .i64 (W : Int), .int .i64 (H : Int), .int .i64 (D : Int), .slice a vs.length c]] w (fun p : Option Addr × Nat => unRes T p) (fun p => [⟨p.1, vl (unR T), p.2 * 3, 27⟩]) := by
  have h := c_implRM (w := w) (f1 := hqw k) (f2 := 0) (f3 := 0) (st := 1056964608) (wi := (W : Int)) (hi := (H : Int)) (de := (D : Int)) (a := a) (c := c) (vs := vs) hA hX hf half_ok.2.2
  rw [hT] at h
  exact h
theorem c_pk0 {w : World} {T : ByteArray} {k W H D : Nat} {vs : List V3} {a : Option Addr} {c : Nat} (hT : pkT (hqw k, 0, 0) 1056964608 (W : Int) (H : Int) (D : Int) vs = T) (hk : pkOk (hqw k, 0, 0) 1056964608 (W : Int) (H : Int) (D : Int) vs = true) (hA : Cl w a (vl vs)) (hX : Cans3 vs) (hf : Can3 (hqw k, 0, 0)) : Pure Try.prog 26 [.agg #[.float .f32 (hqw k), .float .f32 0, .float .f32 0, .float .f32 1056964608, .int .i64 (W : Int), .int .i64 (H : Int), .int .i64 (D : Int), .slice a vs.length c]] w (.tuple #[.string T, .bool true]) := by
  have h := c_implPM (w := w) (f1 := hqw k) (f2 := 0) (f3 := 0) (st := 1056964608) (wi := (W : Int)) (hi := (H : Int)) (de := (D : Int)) (a := a) (c := c) (vs := vs) hA hX hf half_ok.2.2
  rw [hT, hk] at h
  exact h
theorem c_pkT {w : World} {T : ByteArray} {a : Option Addr} {c : Nat} (hT : pkT ((unG T).1, (unG T).2.1, (unG T).2.2) (unS T) (unI T 4) (unI T 5) (unI T 6) (unR T) = T) (hk : pkOk ((unG T).1, (unG T).2.1, (unG T).2.2) (unS T) (unI T 4) (unI T 5) (unI T 6) (unR T) = true) (hA : Cl w a (vl (unR T))) : Pure Try.prog 26 [.agg #[.float .f32 (unG T).1, .float .f32 (unG T).2.1, .float .f32 (unG T).2.2, .float .f32 (unS T), .int .i64 (unI T 4), .int .i64 (unI T 5), .int .i64 (unI T 6), .slice a (unR T).length c]] w (.tuple #[.string T, .bool true]) := by
  have h := c_implPM (w := w) (f1 := (unG T).1) (f2 := (unG T).2.1) (f3 := (unG T).2.2) (st := unS T) (wi := unI T 4) (hi := unI T 5) (de := unI T 6) (a := a) (c := c) (vs := unR T) hA cans_unR can_unG can_unS
  rw [hT, hk] at h
  exact h
theorem law_Packed {w : World} {a b : Option Addr} {c d : Nat} {bs cs : List Int} (hA : Cl w a (bl bs)) (hB : Cl w b (bl cs)) (hb : Bytes bs) (hcb : Bytes cs) : Pure Try.prog 6 [.slice a bs.length c, .slice b cs.length d] w (.bool true) := by
  refine Pure.enter Try.func6 rfl Try.ntmps6 (Nat.le_of_ble_eq_true rfl) ?_
  refine V.seq ?_
  refine V.region ?_
  refine VL.r (.inl rfl) rfl (by decide) (yr_assign (u := .bool false) rfl rfl) ?_
  refine VL.nil ?_
  refine VE.then_wp ?_
  refine V.seq ?_
  refine V.seq ?_
  refine V.region ?_
  refine VL.r (.inl rfl) rfl (by decide) (yr_move rfl rfl) ?_
  refine VL.r (.inl rfl) rfl (by decide) (yr_move rfl rfl) ?_
  refine VL.q (.inl rfl) rfl (by decide) (yq_callf rfl known24_Pm (.cons rfl (.cons rfl .nil)) (fun w hw => c_r8Long)) ?_
  refine VL.nil ?_
  refine VE.then_wp ?_
  refine V.cond rfl (fun h1 => ?_) (fun h1 => ?_)
  · skip
    refine V.seq ?_
    refine V.region ?_
    refine VL.r (.inl rfl) rfl (by decide) (yr_assign (u := .bool true) rfl rfl) ?_
    refine VL.nil ?_
    refine VE.then_wp ?_
    refine V.ret ?_
    refine VE.then_ret ?_
    refine ret1 rfl rfl (fun w1 hw => ?_)
    exact ⟨rfl, hw.below⟩
  · skip
    rw [Bool.or_eq_false_iff, decide_eq_false_iff_not, decide_eq_false_iff_not] at h1
    have hl1 := h1.1
    have hl2 := h1.2
    refine V.skip ?_
    refine VE.then_wp ?_
    refine V.seq ?_
    refine V.region ?_
    refine VL.r (.inl rfl) rfl (by decide) (yr_move rfl rfl) ?_
    refine VL.new1 (.inl rfl) rfl (by decide) (yn_callf rfl known25_Pm (.cons rfl .nil) (fun w hw => (c_r8Mesh (by first | exact Sees.root (by assumption) w hw | exact Sees.own (by repeat (first | exact List.mem_cons_self | exact List.mem_append_left _ (by assumption) | apply List.mem_cons_of_mem | apply List.mem_append_right)) w hw) hb (by omega)))) ?_
    rintro ⟨⟨k29, W29, H29, D29, a29, c29, vs29⟩, hm29⟩
    obtain ⟨T, ks, hpm⟩ := pm_facts hm29
    refine VL.new1 (.inl rfl) rfl (by decide) (yn_alloc rfl zero30_Pm rfl) ?_
    intro b5
    refine VL.s (.inl rfl) rfl (yc_store rfl sz30_Pm rfl rfl (by repeat (first | exact UpdF.here | apply UpdF.there | apply UpdF.thereS)) (.inr ⟨rfl, rfl⟩) rfl (by first | exact Nat.le_of_ble_eq_true rfl | simp) (by decide) rfl) ?_
    rintro ⟨⟩
    refine VL.nil ?_
    refine VE.then_wp ?_
    refine V.seq ?_
    refine V.region ?_
    refine VL.q (.inl rfl) rfl (by decide) (yq_loadS rfl Try.underlying30 sz30_Pm rfl (by first | exact Sees.root (by assumption) | exact Sees.own (by repeat (first | exact List.mem_cons_self | exact List.mem_append_left _ (by assumption) | apply List.mem_cons_of_mem | apply List.mem_append_right)) | exact Sees.root (hR _ (by omega)) | exact Sees.own (RowsIn.mem (by repeat (first | exact RowsIn.here | exact RowsIn.last | apply RowsIn.there | apply RowsIn.thereS)) _ (by omega)) | exact Sees.own (WRowsIn.mem (by repeat (first | exact WRowsIn.here | exact WRowsIn.last | apply WRowsIn.there | apply WRowsIn.thereS)) _ (by omega))) rfl rfl rfl) ?_
    refine VL.q (.inl rfl) rfl (by decide) (yq_callf rfl known26_Pm (.cons rfl .nil) (fun w hw => (c_pk0 hpm.hT hpm.hk (by first | exact Sees.root (by assumption) w hw | exact Sees.own (by repeat (first | exact List.mem_cons_self | exact List.mem_append_left _ (by assumption) | apply List.mem_cons_of_mem | apply List.mem_append_right)) w hw) hpm.hX hpm.hf))) ?_
    refine VL.r (.inl rfl) rfl (by decide) (yr_move rfl rfl) ?_
    refine VL.r (.inl rfl) rfl (by decide) (yr_extract rfl rfl rfl (by nofun)) ?_
    refine VL.r (.inl rfl) rfl (by decide) (yr_extract rfl rfl rfl (by nofun)) ?_
    refine VL.r (.inl rfl) rfl (by decide) (yr_assign rfl rfl) ?_
    refine VL.r (.inl rfl) rfl (by decide) (yr_assign rfl rfl) ?_
    refine VL.nil ?_
    refine VE.then_wp ?_
    refine V.seq ?_
    refine V.region ?_
    refine VL.r (.inl rfl) rfl (by decide) (yr_move rfl rfl) ?_
    refine VL.new1 (.inl rfl) rfl (by decide) (yn_callf rfl known19_Pm (.cons rfl .nil) (fun w hw => (c_implUn (by rw [← hpm.hT]; exact pkT_size)))) ?_
    rintro ⟨a37, c37⟩
    refine VL.r (.inl rfl) rfl (by decide) (yr_move rfl rfl) ?_
    refine VL.r (.inl rfl) rfl (by decide) (yr_extract rfl rfl rfl (by nofun)) ?_
    refine VL.r (.inl rfl) rfl (by decide) (yr_extract rfl rfl rfl (by nofun)) ?_
    refine VL.new1 (.inl rfl) rfl (by decide) (yn_alloc rfl zero30_Pm rfl) ?_
    intro b8
    refine VL.s (.inl rfl) rfl (yc_store rfl sz30_Pm rfl rfl (by repeat (first | exact UpdF.here | apply UpdF.there | apply UpdF.thereS)) (.inr ⟨rfl, rfl⟩) rfl (by first | exact Nat.le_of_ble_eq_true rfl | simp) (by decide) rfl) ?_
    rintro ⟨⟩
    refine VL.r (.inl rfl) rfl (by decide) (yr_assign rfl rfl) ?_
    refine VL.nil ?_
    refine VE.then_wp ?_
    refine V.seq ?_
    refine V.region ?_
    refine VL.q (.inl rfl) rfl (by decide) (yq_loadS rfl Try.underlying30 sz30_Pm rfl (by first | exact Sees.root (by assumption) | exact Sees.own (by repeat (first | exact List.mem_cons_self | exact List.mem_append_left _ (by assumption) | apply List.mem_cons_of_mem | apply List.mem_append_right)) | exact Sees.root (hR _ (by omega)) | exact Sees.own (RowsIn.mem (by repeat (first | exact RowsIn.here | exact RowsIn.last | apply RowsIn.there | apply RowsIn.thereS)) _ (by omega)) | exact Sees.own (WRowsIn.mem (by repeat (first | exact WRowsIn.here | exact WRowsIn.last | apply WRowsIn.there | apply WRowsIn.thereS)) _ (by omega))) rfl rfl rfl) ?_
    refine VL.new1 (.inl rfl) rfl (by decide) (yn_callf rfl known23_Pm (.cons rfl .nil) (fun w hw => (c_rm0 hpm.hT (by first | exact Sees.root (by assumption) w hw | exact Sees.own (by repeat (first | exact List.mem_cons_self | exact List.mem_append_left _ (by assumption) | apply List.mem_cons_of_mem | apply List.mem_append_right)) w hw) hpm.hX hpm.hf))) ?_
    rintro ⟨a42, c42⟩
    refine VL.r (.inl rfl) rfl (by decide) (yr_move rfl rfl) ?_
    refine VL.r (.inl rfl) rfl (by decide) (yr_extract rfl rfl rfl (by nofun)) ?_
    refine VL.r (.inl rfl) rfl (by decide) (yr_extract rfl rfl rfl (by nofun)) ?_
    refine VL.new1 (.inl rfl) rfl (by decide) (yn_alloc rfl zero30_Pm rfl) ?_
    intro b10
    refine VL.s (.inl rfl) rfl (yc_store rfl sz30_Pm rfl rfl (by repeat (first | exact UpdF.here | apply UpdF.there | apply UpdF.thereS)) (.inr ⟨rfl, rfl⟩) rfl (by first | exact Nat.le_of_ble_eq_true rfl | simp) (by decide) rfl) ?_
    rintro ⟨⟩
    refine VL.r (.inl rfl) rfl (by decide) (yr_assign rfl rfl) ?_
    refine VL.nil ?_
    refine VE.then_wp ?_
    refine V.seq ?_
    refine V.region ?_
    refine VL.q (.inl rfl) rfl (by decide) (yq_loadS rfl Try.underlying30 sz30_Pm rfl (by first | exact Sees.root (by assumption) | exact Sees.own (by repeat (first | exact List.mem_cons_self | exact List.mem_append_left _ (by assumption) | apply List.mem_cons_of_mem | apply List.mem_append_right)) | exact Sees.root (hR _ (by omega)) | exact Sees.own (RowsIn.mem (by repeat (first | exact RowsIn.here | exact RowsIn.last | apply RowsIn.there | apply RowsIn.thereS)) _ (by omega)) | exact Sees.own (WRowsIn.mem (by repeat (first | exact WRowsIn.here | exact WRowsIn.last | apply WRowsIn.there | apply WRowsIn.thereS)) _ (by omega))) rfl rfl rfl) ?_
    refine VL.new1 (.inl rfl) rfl (by decide) (yn_callf rfl known23_Pm (.cons rfl .nil) (fun w hw => (c_rmT hpm.hT2 (by first | exact Sees.root (by assumption) w hw | exact Sees.own (by repeat (first | exact List.mem_cons_self | exact List.mem_append_left _ (by assumption) | apply List.mem_cons_of_mem | apply List.mem_append_right)) w hw)))) ?_
    rintro ⟨a47, c47⟩
    refine VL.r (.inl rfl) rfl (by decide) (yr_move rfl rfl) ?_
    refine VL.r (.inl rfl) rfl (by decide) (yr_extract rfl rfl rfl (by nofun)) ?_
    refine VL.r (.inl rfl) rfl (by decide) (yr_extract rfl rfl rfl (by nofun)) ?_
    refine VL.new1 (.inl rfl) rfl (by decide) (yn_alloc rfl zero30_Pm rfl) ?_
    intro b12
    refine VL.s (.inl rfl) rfl (yc_store rfl sz30_Pm rfl rfl (by repeat (first | exact UpdF.here | apply UpdF.there | apply UpdF.thereS)) (.inr ⟨rfl, rfl⟩) rfl (by first | exact Nat.le_of_ble_eq_true rfl | simp) (by decide) rfl) ?_
    rintro ⟨⟩
    refine VL.r (.inl rfl) rfl (by decide) (yr_assign rfl rfl) ?_
    refine VL.nil ?_
    refine VE.then_wp ?_
    refine V.seq ?_
    refine V.region ?_
    refine VL.q (.inl rfl) rfl (by decide) (yq_loadS rfl Try.underlying30 sz30_Pm rfl (by first | exact Sees.root (by assumption) | exact Sees.own (by repeat (first | exact List.mem_cons_self | exact List.mem_append_left _ (by assumption) | apply List.mem_cons_of_mem | apply List.mem_append_right)) | exact Sees.root (hR _ (by omega)) | exact Sees.own (RowsIn.mem (by repeat (first | exact RowsIn.here | exact RowsIn.last | apply RowsIn.there | apply RowsIn.thereS)) _ (by omega)) | exact Sees.own (WRowsIn.mem (by repeat (first | exact WRowsIn.here | exact WRowsIn.last | apply WRowsIn.there | apply WRowsIn.thereS)) _ (by omega))) rfl rfl rfl) ?_
    refine VL.q (.inl rfl) rfl (by decide) (yq_callf rfl known26_Pm (.cons rfl .nil) (fun w hw => (c_pkT hpm.hT2 hpm.hk2 (by first | exact Sees.root (by assumption) w hw | exact Sees.own (by repeat (first | exact List.mem_cons_self | exact List.mem_append_left _ (by assumption) | apply List.mem_cons_of_mem | apply List.mem_append_right)) w hw)))) ?_
    refine VL.r (.inl rfl) rfl (by decide) (yr_move rfl rfl) ?_
    refine VL.r (.inl rfl) rfl (by decide) (yr_extract rfl rfl rfl (by nofun)) ?_
    refine VL.r (.inl rfl) rfl (by decide) (yr_extract rfl rfl rfl (by nofun)) ?_
    refine VL.r (.inl rfl) rfl (by decide) (yr_assign rfl rfl) ?_
    refine VL.r (.inl rfl) rfl (by decide) (yr_assign rfl rfl) ?_
    refine VL.nil ?_
    refine VE.then_wp ?_
    refine V.seq ?_
    refine V.seq ?_
    refine V.region ?_
    refine VL.r (.inl rfl) rfl (by decide) (yr_move rfl rfl) ?_
    refine VL.r (.inl rfl) rfl (by decide) (yr_not rfl rfl) ?_
    refine VL.r (.inl rfl) rfl (by decide) (yr_move rfl rfl) ?_
    refine VX.split 57 _ rfl (fun h2 => ?_) (fun h2 => ?_)
    · skip
      replace h2 := bnot_t h2
      first | (rw [hpm.ok] at h2; cases h2) | cases h2 | (simp at h2; done) | (exfalso; have h77 := hpm.len; dsimp only at h2; omega)
    · skip
      replace h2 := bnot_f h2
      refine VL.r (.inr ⟨_, _, _, rfl, rfl, rfl⟩) rfl (by decide) (yr_move rfl rfl) ?_
      refine VL.r (.inr ⟨_, _, _, rfl, rfl, rfl⟩) rfl (by decide) (yr_not rfl rfl) ?_
      refine VL.r (.inl rfl) rfl (by decide) (yr_pick_f rfl rfl rfl) ?_
      refine VL.r (.inl rfl) rfl (by decide) (yr_move rfl rfl) ?_
      refine VX.split 61 _ rfl (fun h3 => ?_) (fun h3 => ?_)
      · skip
        replace h3 := bnot_t h3
        first | (rw [hpm.ok] at h3; cases h3) | cases h3 | (simp at h3; done) | (exfalso; have h77 := hpm.len; dsimp only at h3; omega)
      · skip
        replace h3 := bnot_f h3
        refine VL.r (.inr ⟨_, _, _, rfl, rfl, rfl⟩) rfl (by decide) (yr_move rfl rfl) ?_
        refine VL.r (.inr ⟨_, _, _, rfl, rfl, rfl⟩) rfl (by decide) (yr_not rfl rfl) ?_
        refine VL.r (.inl rfl) rfl (by decide) (yr_pick_f rfl rfl rfl) ?_
        refine VL.r (.inl rfl) rfl (by decide) (yr_move rfl rfl) ?_
        refine VX.split 65 _ rfl (fun h4 => ?_) (fun h4 => ?_)
        · skip
          replace h4 := bnot_t h4
          first | (rw [hpm.ok] at h4; cases h4) | cases h4 | (simp at h4; done) | (exfalso; have h77 := hpm.len; dsimp only at h4; omega)
        · skip
          replace h4 := bnot_f h4
          refine VL.r (.inr ⟨_, _, _, rfl, rfl, rfl⟩) rfl (by decide) (yr_move rfl rfl) ?_
          refine VL.r (.inr ⟨_, _, _, rfl, rfl, rfl⟩) rfl (by decide) (yr_not rfl rfl) ?_
          refine VL.r (.inl rfl) rfl (by decide) (yr_pick_f rfl rfl rfl) ?_
          refine VL.r (.inl rfl) rfl (by decide) (yr_move rfl rfl) ?_
          refine VX.split 69 _ rfl (fun h5 => ?_) (fun h5 => ?_)
          · skip
            replace h5 := bnot_t h5
            first | (rw [hpm.ok] at h5; cases h5) | cases h5 | (simp at h5; done) | (exfalso; have h77 := hpm.len; dsimp only at h5; omega)
          · skip
            replace h5 := bnot_f h5
            refine VL.r (.inr ⟨_, _, _, rfl, rfl, rfl⟩) rfl (by decide) (yr_move rfl rfl) ?_
            refine VL.r (.inr ⟨_, _, _, rfl, rfl, rfl⟩) rfl (by decide) (yr_not rfl rfl) ?_
            refine VL.r (.inl rfl) rfl (by decide) (yr_pick_f rfl rfl rfl) ?_
            refine VL.r (.inl rfl) rfl (by decide) (yr_move rfl rfl) ?_
            refine VX.split 73 _ rfl (fun h6 => ?_) (fun h6 => ?_)
            · skip
              replace h6 := bnot_t h6
              first | (rw [hpm.ok] at h6; cases h6) | cases h6 | (simp at h6; done) | (exfalso; have h77 := hpm.len; dsimp only at h6; omega)
            · skip
              replace h6 := bnot_f h6
              refine VL.q (.inr ⟨_, _, _, rfl, rfl, rfl⟩) rfl (by decide) (yq_loadS rfl Try.underlying30 sz30_Pm rfl (by first | exact Sees.root (by assumption) | exact Sees.own (by repeat (first | exact List.mem_cons_self | exact List.mem_append_left _ (by assumption) | apply List.mem_cons_of_mem | apply List.mem_append_right)) | exact Sees.root (hR _ (by omega)) | exact Sees.own (RowsIn.mem (by repeat (first | exact RowsIn.here | exact RowsIn.last | apply RowsIn.there | apply RowsIn.thereS)) _ (by omega)) | exact Sees.own (WRowsIn.mem (by repeat (first | exact WRowsIn.here | exact WRowsIn.last | apply WRowsIn.there | apply WRowsIn.thereS)) _ (by omega))) rfl rfl rfl) ?_
              refine VL.q (.inr ⟨_, _, _, rfl, rfl, rfl⟩) rfl (by decide) (yq_loadS rfl Try.underlying30 sz30_Pm rfl (by first | exact Sees.root (by assumption) | exact Sees.own (by repeat (first | exact List.mem_cons_self | exact List.mem_append_left _ (by assumption) | apply List.mem_cons_of_mem | apply List.mem_append_right)) | exact Sees.root (hR _ (by omega)) | exact Sees.own (RowsIn.mem (by repeat (first | exact RowsIn.here | exact RowsIn.last | apply RowsIn.there | apply RowsIn.thereS)) _ (by omega)) | exact Sees.own (WRowsIn.mem (by repeat (first | exact WRowsIn.here | exact WRowsIn.last | apply WRowsIn.there | apply WRowsIn.thereS)) _ (by omega))) rfl rfl rfl) ?_
              refine VL.q (.inr ⟨_, _, _, rfl, rfl, rfl⟩) rfl (by decide) (yq_callf rfl known27_Pm (.cons rfl (.cons rfl .nil)) (fun w hw => (c_sameMeshR (by first | exact Sees.root (by assumption) w hw | exact Sees.own (by repeat (first | exact List.mem_cons_self | exact List.mem_append_left _ (by assumption) | apply List.mem_cons_of_mem | apply List.mem_append_right)) w hw) (by first | exact Sees.root (by assumption) w hw | exact Sees.own (by repeat (first | exact List.mem_cons_self | exact List.mem_append_left _ (by assumption) | apply List.mem_cons_of_mem | apply List.mem_append_right)) w hw) cans_unR can_unG can_unS (by have := unR_length (s := T); omega)))) ?_
              refine VL.r (.inr ⟨_, _, _, rfl, rfl, rfl⟩) rfl (by decide) (yr_not rfl rfl) ?_
              refine VL.r (.inl rfl) rfl (by decide) (yr_pick_f rfl rfl rfl) ?_
              refine VL.r (.inl rfl) rfl (by decide) (yr_move rfl rfl) ?_
              refine VX.split 79 _ rfl (fun h7 => ?_) (fun h7 => ?_)
              · skip
                replace h7 := bnot_t h7
                first | (rw [hpm.ok] at h7; cases h7) | cases h7 | (simp at h7; done) | (exfalso; have h77 := hpm.len; dsimp only at h7; omega)
              · skip
                replace h7 := bnot_f h7
                refine VL.q (.inr ⟨_, _, _, rfl, rfl, rfl⟩) rfl (by decide) (yq_loadS rfl Try.underlying30 sz30_Pm rfl (by first | exact Sees.root (by assumption) | exact Sees.own (by repeat (first | exact List.mem_cons_self | exact List.mem_append_left _ (by assumption) | apply List.mem_cons_of_mem | apply List.mem_append_right)) | exact Sees.root (hR _ (by omega)) | exact Sees.own (RowsIn.mem (by repeat (first | exact RowsIn.here | exact RowsIn.last | apply RowsIn.there | apply RowsIn.thereS)) _ (by omega)) | exact Sees.own (WRowsIn.mem (by repeat (first | exact WRowsIn.here | exact WRowsIn.last | apply WRowsIn.there | apply WRowsIn.thereS)) _ (by omega))) rfl rfl rfl) ?_
                refine VL.q (.inr ⟨_, _, _, rfl, rfl, rfl⟩) rfl (by decide) (yq_loadS rfl Try.underlying30 sz30_Pm rfl (by first | exact Sees.root (by assumption) | exact Sees.own (by repeat (first | exact List.mem_cons_self | exact List.mem_append_left _ (by assumption) | apply List.mem_cons_of_mem | apply List.mem_append_right)) | exact Sees.root (hR _ (by omega)) | exact Sees.own (RowsIn.mem (by repeat (first | exact RowsIn.here | exact RowsIn.last | apply RowsIn.there | apply RowsIn.thereS)) _ (by omega)) | exact Sees.own (WRowsIn.mem (by repeat (first | exact WRowsIn.here | exact WRowsIn.last | apply WRowsIn.there | apply WRowsIn.thereS)) _ (by omega))) rfl rfl rfl) ?_
                refine VL.q (.inr ⟨_, _, _, rfl, rfl, rfl⟩) rfl (by decide) (yq_callf rfl known27_Pm (.cons rfl (.cons rfl .nil)) (fun w hw => (c_sameMeshR (by first | exact Sees.root (by assumption) w hw | exact Sees.own (by repeat (first | exact List.mem_cons_self | exact List.mem_append_left _ (by assumption) | apply List.mem_cons_of_mem | apply List.mem_append_right)) w hw) (by first | exact Sees.root (by assumption) w hw | exact Sees.own (by repeat (first | exact List.mem_cons_self | exact List.mem_append_left _ (by assumption) | apply List.mem_cons_of_mem | apply List.mem_append_right)) w hw) cans_unR can_unG can_unS (by have := unR_length (s := T); omega)))) ?_
                refine VL.r (.inr ⟨_, _, _, rfl, rfl, rfl⟩) rfl (by decide) (yr_not rfl rfl) ?_
                refine VL.r (.inl rfl) rfl (by decide) (yr_pick_f rfl rfl rfl) ?_
                refine VL.r (.inl rfl) rfl (by decide) (yr_move rfl rfl) ?_
                refine VX.split 85 _ rfl (fun h8 => ?_) (fun h8 => ?_)
                · skip
                  replace h8 := bnot_t h8
                  first | (rw [hpm.ok] at h8; cases h8) | cases h8 | (simp at h8; done) | (exfalso; have h77 := hpm.len; dsimp only at h8; omega)
                · skip
                  replace h8 := bnot_f h8
                  refine VL.r (.inr ⟨_, _, _, rfl, rfl, rfl⟩) rfl (by decide) (yr_move rfl rfl) ?_
                  refine VL.r (.inr ⟨_, _, _, rfl, rfl, rfl⟩) rfl (by decide) (yr_move rfl rfl) ?_
                  refine VL.r (.inr ⟨_, _, _, rfl, rfl, rfl⟩) rfl (by decide) (yr_scmp rfl rfl rfl (.inr rfl)) ?_
                  refine VL.r (.inl rfl) rfl (by decide) (yr_pick_f rfl rfl rfl) ?_
                  refine VL.r (.inl rfl) rfl (by decide) (yr_move rfl rfl) ?_
                  refine VX.split 90 _ rfl (fun h9 => ?_) (fun h9 => ?_)
                  · skip
                    first | (rw [hpm.ok] at h9; cases h9) | cases h9 | (simp at h9; done) | (exfalso; have h77 := hpm.len; dsimp only at h9; omega)
                  · skip
                    refine VL.r (.inr ⟨_, _, _, rfl, rfl, rfl⟩) rfl (by decide) (yr_fieldAddr rfl Try.underlying30 rfl rfl sz28_Pm (by decide) rfl) ?_
                    refine VL.q (.inr ⟨_, _, _, rfl, rfl, rfl⟩) rfl (by decide) (yq_load rfl fb28_Pm rfl (by first | exact Sees.root (by assumption) | exact Sees.own (by repeat (first | exact List.mem_cons_self | exact List.mem_append_left _ (by assumption) | apply List.mem_cons_of_mem | apply List.mem_append_right)) | exact Sees.root (hR _ (by omega)) | exact Sees.own (RowsIn.mem (by repeat (first | exact RowsIn.here | exact RowsIn.last | apply RowsIn.there | apply RowsIn.thereS)) _ (by omega)) | exact Sees.own (WRowsIn.mem (by repeat (first | exact WRowsIn.here | exact WRowsIn.last | apply WRowsIn.there | apply WRowsIn.thereS)) _ (by omega))) rfl) ?_
                    refine VL.r (.inr ⟨_, _, _, rfl, rfl, rfl⟩) rfl (by decide) (yr_len rfl Try.underlying28 rfl) ?_
                    refine VL.r (.inr ⟨_, _, _, rfl, rfl, rfl⟩) rfl (by decide) (yr_fieldAddr rfl Try.underlying30 rfl rfl sz28_Pm (by decide) rfl) ?_
                    refine VL.q (.inr ⟨_, _, _, rfl, rfl, rfl⟩) rfl (by decide) (yq_load rfl fb28_Pm rfl (by first | exact Sees.root (by assumption) | exact Sees.own (by repeat (first | exact List.mem_cons_self | exact List.mem_append_left _ (by assumption) | apply List.mem_cons_of_mem | apply List.mem_append_right)) | exact Sees.root (hR _ (by omega)) | exact Sees.own (RowsIn.mem (by repeat (first | exact RowsIn.here | exact RowsIn.last | apply RowsIn.there | apply RowsIn.thereS)) _ (by omega)) | exact Sees.own (WRowsIn.mem (by repeat (first | exact WRowsIn.here | exact WRowsIn.last | apply WRowsIn.there | apply WRowsIn.thereS)) _ (by omega))) rfl) ?_
                    refine VL.r (.inr ⟨_, _, _, rfl, rfl, rfl⟩) rfl (by decide) (yr_len rfl Try.underlying28 rfl) ?_
                    refine VL.r (.inr ⟨_, _, _, rfl, rfl, rfl⟩) rfl (by decide) (yr_icmp rfl (.inr (.inl rfl)) rfl rfl) ?_
                    refine VL.r (.inl rfl) rfl (by decide) (yr_pick_f rfl rfl rfl) ?_
                    refine VL.nil ?_
                    refine VE.then_wp ?_
                    refine V.cond rfl (fun h10 => ?_) (fun h10 => ?_)
                    · skip
                      replace h10 := ic_neq h10
                      first | (rw [hpm.ok] at h10; cases h10) | cases h10 | (simp at h10; done) | (exfalso; have h77 := hpm.len; dsimp only at h10; omega)
                    · skip
                      replace h10 := ic_neq' h10
                      have hN9 := hpm.hN
                      have hTs : T.size = 27 + 6 * unN T := (un_sizes hpm.ok).2
                      have hTn : unN T ≤ 216 := un_small hpm.ok
                      refine V.skip ?_
                      refine VE.then_wp ?_
                      refine V.seq ?_
                      refine V.region ?_
                      refine VL.r (.inl rfl) rfl (by decide) (yr_move rfl rfl) ?_
                      refine VL.r (.inl rfl) rfl (by decide) (yr_move rfl rfl) ?_
                      refine VL.r (.inl rfl) rfl (by decide) (yr_move rfl rfl) ?_
                      refine VL.r (.inl rfl) rfl (by decide) (yr_lenString rfl Try.underlying9 rfl) ?_
                      refine VL.new (.inl rfl) rfl (by decide) (yn_callf rfl known28_Pm (.cons rfl (.cons rfl (.cons rfl .nil))) (fun w hw => (c_r8At (k := 0) (m := T.size) (by first | exact Sees.root (by assumption) w hw | exact Sees.own (by repeat (first | exact List.mem_cons_self | exact List.mem_append_left _ (by assumption) | apply List.mem_cons_of_mem | apply List.mem_append_right)) w hw) hcb (by omega) (by omega)))) ?_
                      rintro ⟨x104, hx104⟩
                      refine VL.r (.inl rfl) rfl (by decide) (yr_strPart (l := 0) (h := x104) rfl Try.underlying9 rfl OptI.no (OptI.at rfl rfl) (by omega) (by omega)) ?_
                      refine VL.new1 (.inl rfl) rfl (by decide) (yn_callf rfl known19_Pm (.cons rfl .nil) (fun w hw => (c_implUn (by rw [extract_size (by omega)]; omega)))) ?_
                      rintro ⟨a106, c106⟩
                      refine VL.r (.inl rfl) rfl (by decide) (yr_move rfl rfl) ?_
                      refine VL.r (.inl rfl) rfl (by decide) (yr_extract rfl rfl rfl (by nofun)) ?_
                      refine VL.r (.inl rfl) rfl (by decide) (yr_extract rfl rfl rfl (by nofun)) ?_
                      refine VL.new1 (.inl rfl) rfl (by decide) (yn_alloc rfl zero30_Pm rfl) ?_
                      intro b16
                      refine VL.s (.inl rfl) rfl (yc_store rfl sz30_Pm rfl rfl (by repeat (first | exact UpdF.here | apply UpdF.there | apply UpdF.thereS)) (.inr ⟨rfl, rfl⟩) rfl (by first | exact Nat.le_of_ble_eq_true rfl | simp) (by decide) rfl) ?_
                      rintro ⟨⟩
                      refine VL.r (.inl rfl) rfl (by decide) (yr_assign rfl rfl) ?_
                      refine VL.nil ?_
                      refine VE.then_wp ?_
                      refine V.seq ?_
                      refine V.region ?_
                      refine VL.r (.inl rfl) rfl (by decide) (yr_move rfl rfl) ?_
                      refine VL.r (.inl rfl) rfl (by decide) (yr_cat rfl rfl rfl (show T.size + 1 ≤ _ by omega)) ?_
                      refine VL.new1 (.inl rfl) rfl (by decide) (yn_callf rfl known19_Pm (.cons rfl .nil) (fun w hw => (c_implUn (by rw [ByteArray.size_append]; show T.size + 1 ≤ _; omega)))) ?_
                      rintro ⟨a112, c112⟩
                      refine VL.r (.inl rfl) rfl (by decide) (yr_move rfl rfl) ?_
                      refine VL.r (.inl rfl) rfl (by decide) (yr_extract rfl rfl rfl (by nofun)) ?_
                      refine VL.r (.inl rfl) rfl (by decide) (yr_extract rfl rfl rfl (by nofun)) ?_
                      refine VL.new1 (.inl rfl) rfl (by decide) (yn_alloc rfl zero30_Pm rfl) ?_
                      intro b18
                      refine VL.s (.inl rfl) rfl (yc_store rfl sz30_Pm rfl rfl (by repeat (first | exact UpdF.here | apply UpdF.there | apply UpdF.thereS)) (.inr ⟨rfl, rfl⟩) rfl (by first | exact Nat.le_of_ble_eq_true rfl | simp) (by decide) rfl) ?_
                      rintro ⟨⟩
                      refine VL.r (.inl rfl) rfl (by decide) (yr_assign rfl rfl) ?_
                      refine VL.nil ?_
                      refine VE.then_wp ?_
                      refine V.seq ?_
                      refine V.seq ?_
                      refine V.region ?_
                      refine VL.r (.inl rfl) rfl (by decide) (yr_move rfl rfl) ?_
                      refine VL.r (.inl rfl) rfl (by decide) (yr_move rfl rfl) ?_
                      refine VX.split 116 _ rfl (fun h11 => ?_) (fun h11 => ?_)
                      · skip
                        rw [un_cut hpm.ok hx104] at h11; cases h11
                      · skip
                        refine VL.r (.inr ⟨_, _, _, rfl, rfl, rfl⟩) rfl (by decide) (yr_move rfl rfl) ?_
                        refine VL.r (.inl rfl) rfl (by decide) (yr_pick_f rfl rfl rfl) ?_
                        refine VL.nil ?_
                        refine VE.then_wp ?_
                        refine V.cond rfl (fun h12 => ?_) (fun h12 => ?_)
                        · skip
                          rw [un_more hpm.ok rfl] at h12; cases h12
                        · skip
                          refine V.skip ?_
                          refine VE.then_wp ?_
                          refine V.seq ?_
                          refine V.region ?_
                          refine VL.r (.inl rfl) rfl (by decide) (yr_assign (u := .float .f64 0) rfl rfl) ?_
                          refine VL.nil ?_
                          refine VE.then_wp ?_
                          refine V.seq ?_
                          refine V.seq ?_
                          refine V.region ?_
                          refine VL.r (.inl rfl) rfl (by decide) (yr_assign (u := .int .i64 0) rfl rfl) ?_
                          refine VL.nil ?_
                          refine VE.then_wp ?_
                          refine V.block ?_
                          refine V.loopc (G := Nat) [(5, _), (8, _)] (fun (i : Nat) => i ≤ vs29.length) (fun (i : Nat) => [⟨some ⟨b5, 0, none⟩, [.float .f32 (hqw k29), .float .f32 0, .float .f32 0, .float .f32 1056964608, .int .i64 (W29 : Int), .int .i64 (H29 : Int), .int .i64 (D29 : Int), .slice a29 vs29.length c29], 8, 30⟩, ⟨some ⟨b8, 0, none⟩, [.float .f32 (unG T).1, .float .f32 (unG T).2.1, .float .f32 (unG T).2.2, .float .f32 (unS T), .int .i64 (unI T 4), .int .i64 (unI T 5), .int .i64 (unI T 6), .slice a37 (unR T).length c37], 8, 30⟩, ⟨a29, vl vs29, c29 * 3, 27⟩, ⟨a37, vl (unR T), c37 * 3, 27⟩]) (fun (i : Nat) => [(20, .float .f64 (up (qw (8 + Mx ks (i * 3))))), (21, .int .i64 (i : Int))]) (fun (i : Nat) => vs29.length - i) 0 (.cons rfl (.cons rfl .nil)) (.cons (congrArg (fun n => some (Value.float .f64 n)) (by rw [Nat.zero_mul]; exact mx0)) (.cons rfl .nil)) ?_ ?_ ?_
                          · exact (fun w hw => hw.pick (by apply Pick.e4; all_goals (repeat (first | exact Rem.here | apply Rem.there))))
                          · exact (Nat.zero_le _)
                          rintro i hi9
                          show V _ _ _ [⟨some ⟨b5, 0, none⟩, [.float .f32 (hqw k29), .float .f32 0, .float .f32 0, .float .f32 1056964608, .int .i64 (W29 : Int), .int .i64 (H29 : Int), .int .i64 (D29 : Int), .slice a29 vs29.length c29], 8, 30⟩, ⟨some ⟨b8, 0, none⟩, [.float .f32 (unG T).1, .float .f32 (unG T).2.1, .float .f32 (unG T).2.2, .float .f32 (unS T), .int .i64 (unI T 4), .int .i64 (unI T 5), .int .i64 (unI T 6), .slice a37 (unR T).length c37], 8, 30⟩, ⟨a29, vl vs29, c29 * 3, 27⟩, ⟨a37, vl (unR T), c37 * 3, 27⟩] ([(20, .float .f64 (up (qw (8 + Mx ks (i * 3))))), (21, .int .i64 (i : Int))] ++ [(5, _), (8, _)]) _ _
                          refine V.seq ?_
                          refine V.seq ?_
                          refine V.region ?_
                          refine VL.r (.inl rfl) rfl (by decide) (yr_move rfl rfl) ?_
                          refine VL.r (.inl rfl) rfl (by decide) (yr_fieldAddr rfl Try.underlying30 rfl rfl sz28_Pm (by decide) rfl) ?_
                          refine VL.q (.inl rfl) rfl (by decide) (yq_load rfl fb28_Pm rfl (by first | exact Sees.root (by assumption) | exact Sees.own (by repeat (first | exact List.mem_cons_self | exact List.mem_append_left _ (by assumption) | apply List.mem_cons_of_mem | apply List.mem_append_right)) | exact Sees.root (hR _ (by omega)) | exact Sees.own (RowsIn.mem (by repeat (first | exact RowsIn.here | exact RowsIn.last | apply RowsIn.there | apply RowsIn.thereS)) _ (by omega)) | exact Sees.own (WRowsIn.mem (by repeat (first | exact WRowsIn.here | exact WRowsIn.last | apply WRowsIn.there | apply WRowsIn.thereS)) _ (by omega))) rfl) ?_
                          refine VL.r (.inl rfl) rfl (by decide) (yr_len rfl Try.underlying28 rfl) ?_
                          refine VL.r (.inl rfl) rfl (by decide) (yr_icmp rfl (.inr (.inr (.inl rfl))) rfl rfl) ?_
                          refine VL.nil ?_
                          refine VE.then_wp ?_
                          refine V.cond rfl (fun h13 => ?_) (fun h13 => ?_)
                          · skip
                            replace h13 := ic_lss h13
                            have hv9 := node_q hpm.qs (show i < vs29.length by omega)
                            refine V.skip ?_
                            refine VE.then_wp ?_
                            refine V.seq ?_
                            refine V.block ?_
                            refine V.seq ?_
                            refine V.region ?_
                            refine VL.r (.inl rfl) rfl (by decide) (yr_fieldAddr rfl Try.underlying30 rfl rfl sz28_Pm (by decide) rfl) ?_
                            refine VL.q (.inl rfl) rfl (by decide) (yq_load rfl fb28_Pm rfl (by first | exact Sees.root (by assumption) | exact Sees.own (by repeat (first | exact List.mem_cons_self | exact List.mem_append_left _ (by assumption) | apply List.mem_cons_of_mem | apply List.mem_append_right)) | exact Sees.root (hR _ (by omega)) | exact Sees.own (RowsIn.mem (by repeat (first | exact RowsIn.here | exact RowsIn.last | apply RowsIn.there | apply RowsIn.thereS)) _ (by omega)) | exact Sees.own (WRowsIn.mem (by repeat (first | exact WRowsIn.here | exact WRowsIn.last | apply WRowsIn.there | apply WRowsIn.thereS)) _ (by omega))) rfl) ?_
                            refine VL.r (.inl rfl) rfl (by decide) (yr_move rfl rfl) ?_
                            refine VL.q (.inl rfl) rfl (by decide) (yq_idxN (k := i) rfl Try.underlying28 sz27_Pm rfl rfl (by first | exact Sees.root (by assumption) | exact Sees.own (by repeat (first | exact List.mem_cons_self | exact List.mem_append_left _ (by assumption) | apply List.mem_cons_of_mem | apply List.mem_append_right)) | exact Sees.root (hR _ (by omega)) | exact Sees.own (RowsIn.mem (by repeat (first | exact RowsIn.here | exact RowsIn.last | apply RowsIn.there | apply RowsIn.thereS)) _ (by omega)) | exact Sees.own (WRowsIn.mem (by repeat (first | exact WRowsIn.here | exact WRowsIn.last | apply WRowsIn.there | apply WRowsIn.thereS)) _ (by omega))) (by first | rfl | omega | (push_cast; rfl) | (push_cast; omega) | exact tmod_nat _ _) (by exact vl_length _) (by decide) (by omega)) ?_
                            refine VL.q (.inl rfl) rfl (by decide) (YQ.cast (congrArg vv hv9) (yq_loadV rfl Try.underlying27 sz27_Pm rfl (by first | exact Sees.root (by assumption) | exact Sees.own (by repeat (first | exact List.mem_cons_self | exact List.mem_append_left _ (by assumption) | apply List.mem_cons_of_mem | apply List.mem_append_right)) | exact Sees.root (hR _ (by omega)) | exact Sees.own (RowsIn.mem (by repeat (first | exact RowsIn.here | exact RowsIn.last | apply RowsIn.there | apply RowsIn.thereS)) _ (by omega)) | exact Sees.own (WRowsIn.mem (by repeat (first | exact WRowsIn.here | exact WRowsIn.last | apply WRowsIn.there | apply WRowsIn.thereS)) _ (by omega))) (by omega))) ?_
                            refine VL.new1 (.inl rfl) rfl (by decide) (yn_alloc rfl zero27_Pm rfl) ?_
                            intro b22
                            refine VL.s (.inl rfl) rfl (yc_store rfl sz27_Pm rfl rfl (by repeat (first | exact UpdF.here | apply UpdF.there | apply UpdF.thereS)) (.inr ⟨rfl, rfl⟩) rfl (by first | exact Nat.le_of_ble_eq_true rfl | simp) (by decide) rfl) ?_
                            rintro ⟨⟩
                            refine VL.nil ?_
                            refine VE.then_wp ?_
                            refine V.draw [(0, 0), (1, 0), (2, 0), (3, 0), (4, 0), (5, 0), (6, 0), (7, 0), (8, 0), (9, 0), (10, 0), (11, 0), (12, 0), (13, 0), (14, 0)] mixed_Pm (by kernel_rfl) (by intro j o hj; simp at hj) ?_
                            refine SW.r rfl (.inl rfl) rfl (by decide) (yr_move rfl rfl) ?_
                            refine SW.r rfl (.inl rfl) rfl (by decide) (yr_fieldAddr rfl Try.underlying27 rfl rfl sz23_Pm (by decide) rfl) ?_
                            refine SW.q rfl (.inl rfl) rfl (by decide) (yq_load rfl fb23_Pm rfl (by first | exact Sees.root (by assumption) | exact Sees.own (by repeat (first | exact List.mem_cons_self | exact List.mem_append_left _ (by assumption) | apply List.mem_cons_of_mem | apply List.mem_append_right)) | exact Sees.root (hR _ (by omega)) | exact Sees.own (RowsIn.mem (by repeat (first | exact RowsIn.here | exact RowsIn.last | apply RowsIn.there | apply RowsIn.thereS)) _ (by omega)) | exact Sees.own (WRowsIn.mem (by repeat (first | exact WRowsIn.here | exact WRowsIn.last | apply WRowsIn.there | apply WRowsIn.thereS)) _ (by omega))) rfl) ?_
                            refine SW.r rfl (.inl rfl) rfl (by decide) (yr_fconv rfl Try.underlying23 Try.underlying56 (by decide) rfl (fover_up _)) ?_
                            refine SW.q rfl (.inl rfl) rfl (by decide) (yq_callf rfl known29_Pm (.cons rfl (.cons rfl .nil)) (fun w hw => (c_r8Gap (x := up (qw (ks (i * 3)))) (y := 0) (gap_q hpm.qs (show i * 3 + 0 < _ by omega)).2.2.1 (gap_q hpm.qs (show i * 3 + 0 < _ by omega)).2.2.2))) ?_
                            refine SW.r rfl (.inl rfl) rfl (by decide) (yr_fieldAddr rfl Try.underlying27 rfl rfl sz23_Pm (by decide) rfl) ?_
                            refine SW.q rfl (.inl rfl) rfl (by decide) (yq_load rfl fb23_Pm rfl (by first | exact Sees.root (by assumption) | exact Sees.own (by repeat (first | exact List.mem_cons_self | exact List.mem_append_left _ (by assumption) | apply List.mem_cons_of_mem | apply List.mem_append_right)) | exact Sees.root (hR _ (by omega)) | exact Sees.own (RowsIn.mem (by repeat (first | exact RowsIn.here | exact RowsIn.last | apply RowsIn.there | apply RowsIn.thereS)) _ (by omega)) | exact Sees.own (WRowsIn.mem (by repeat (first | exact WRowsIn.here | exact WRowsIn.last | apply WRowsIn.there | apply WRowsIn.thereS)) _ (by omega))) rfl) ?_
                            refine SW.r rfl (.inl rfl) rfl (by decide) (yr_fconv rfl Try.underlying23 Try.underlying56 (by decide) rfl (fover_up _)) ?_
                            refine SW.q rfl (.inl rfl) rfl (by decide) (yq_callf rfl known29_Pm (.cons rfl (.cons rfl .nil)) (fun w hw => (c_r8Gap (x := up (qw (ks (i * 3 + 1)))) (y := 0) (gap_q hpm.qs (show i * 3 + 1 < _ by omega)).2.2.1 (gap_q hpm.qs (show i * 3 + 1 < _ by omega)).2.2.2))) ?_
                            refine SW.r rfl (.inl rfl) rfl (by decide) (yr_fieldAddr rfl Try.underlying27 rfl rfl sz23_Pm (by decide) rfl) ?_
                            refine SW.q rfl (.inl rfl) rfl (by decide) (yq_load rfl fb23_Pm rfl (by first | exact Sees.root (by assumption) | exact Sees.own (by repeat (first | exact List.mem_cons_self | exact List.mem_append_left _ (by assumption) | apply List.mem_cons_of_mem | apply List.mem_append_right)) | exact Sees.root (hR _ (by omega)) | exact Sees.own (RowsIn.mem (by repeat (first | exact RowsIn.here | exact RowsIn.last | apply RowsIn.there | apply RowsIn.thereS)) _ (by omega)) | exact Sees.own (WRowsIn.mem (by repeat (first | exact WRowsIn.here | exact WRowsIn.last | apply WRowsIn.there | apply WRowsIn.thereS)) _ (by omega))) rfl) ?_
                            refine SW.r rfl (.inl rfl) rfl (by decide) (yr_fconv rfl Try.underlying23 Try.underlying56 (by decide) rfl (fover_up _)) ?_
                            refine SW.q rfl (.inl rfl) rfl (by decide) (yq_callf rfl known29_Pm (.cons rfl (.cons rfl .nil)) (fun w hw => (c_r8Gap (x := up (qw (ks (i * 3 + 2)))) (y := 0) (gap_q hpm.qs (show i * 3 + 2 < _ by omega)).2.2.1 (gap_q hpm.qs (show i * 3 + 2 < _ by omega)).2.2.2))) ?_
                            refine SW.r rfl (.inl rfl) rfl (by decide) (yr_maxF (k := .f64) (up (qw (8 + Mx ks (i * 3)))) [(gap64 (up (qw (ks (i * 3)))) 0), (gap64 (up (qw (ks (i * 3 + 1)))) 0), (gap64 (up (qw (ks (i * 3 + 2)))) 0)] rfl (.cons rfl (.cons rfl (.cons rfl (.cons rfl .nil)))) (nn4 (mx_nn hpm.qs (by omega)) (gap_q hpm.qs (show i * 3 + 0 < _ by omega)).2.1 (gap_q hpm.qs (show i * 3 + 1 < _ by omega)).2.1 (gap_q hpm.qs (show i * 3 + 2 < _ by omega)).2.1)) ?_
                            refine SW.r rfl (.inl rfl) rfl (by decide) (yr_assign rfl rfl) ?_
                            refine SW.done ?_
                            refine VE.block_normal ?_
                            refine VE.then_wp ?_
                            refine V.region ?_
                            refine VL.r (.inl rfl) rfl (by decide) (yr_move rfl rfl) ?_
                            refine VL.r (.inl rfl) rfl (by decide) (yr_int rfl rfl rfl (.inl ⟨rfl, wrap_in (by omega)⟩)) ?_
                            refine VL.r (.inl rfl) rfl (by decide) (yr_assign rfl rfl) ?_
                            refine VL.nil ?_
                            refine VE.round (i + 1) ?_ ?_ ?_ ?_ ?_
                            · exact (.cons (congrArg (fun n => some (Value.float .f64 n)) (by exact mx_step hpm.qs (show i < vs29.length by omega))) (.cons rfl .nil))
                            · exact (.cons rfl (.cons rfl .nil))
                            · exact (fun w hw => hw.sub (List.sublist_cons_self _ _))
                            · omega
                            · (try dsimp only); omega
                          · skip
                            replace h13 := ic_lss' h13
                            obtain rfl : i = vs29.length := by omega
                            refine V.exit ?_
                            refine VE.then_exit ?_
                            refine VE.then_exit ?_
                            refine VE.block_here ?_
                            refine VE.then_wp ?_
                            refine V.seq ?_
                            refine V.seq ?_
                            refine V.region ?_
                            refine VL.r (.inl rfl) rfl (by decide) (yr_assign (u := .int .i64 0) rfl rfl) ?_
                            refine VL.nil ?_
                            refine VE.then_wp ?_
                            refine V.block ?_
                            refine V.loopc (G := Nat) [(5, _), (8, _), (20, _)] (fun (i : Nat) => i ≤ vs29.length) (fun (i : Nat) => [⟨some ⟨b5, 0, none⟩, [.float .f32 (hqw k29), .float .f32 0, .float .f32 0, .float .f32 1056964608, .int .i64 (W29 : Int), .int .i64 (H29 : Int), .int .i64 (D29 : Int), .slice a29 vs29.length c29], 8, 30⟩, ⟨some ⟨b8, 0, none⟩, [.float .f32 (unG T).1, .float .f32 (unG T).2.1, .float .f32 (unG T).2.2, .float .f32 (unS T), .int .i64 (unI T 4), .int .i64 (unI T 5), .int .i64 (unI T 6), .slice a37 (unR T).length c37], 8, 30⟩, ⟨a29, vl vs29, c29 * 3, 27⟩, ⟨a37, vl (unR T), c37 * 3, 27⟩]) (fun (i : Nat) => [(23, .int .i64 (i : Int))]) (fun (i : Nat) => vs29.length - i) 0 (.cons rfl (.cons rfl (.cons rfl .nil))) (.cons rfl .nil) ?_ ?_ ?_
                            · exact (fun w hw => hw)
                            · exact (Nat.zero_le _)
                            rintro i hi9
                            show V _ _ _ [⟨some ⟨b5, 0, none⟩, [.float .f32 (hqw k29), .float .f32 0, .float .f32 0, .float .f32 1056964608, .int .i64 (W29 : Int), .int .i64 (H29 : Int), .int .i64 (D29 : Int), .slice a29 vs29.length c29], 8, 30⟩, ⟨some ⟨b8, 0, none⟩, [.float .f32 (unG T).1, .float .f32 (unG T).2.1, .float .f32 (unG T).2.2, .float .f32 (unS T), .int .i64 (unI T 4), .int .i64 (unI T 5), .int .i64 (unI T 6), .slice a37 (unR T).length c37], 8, 30⟩, ⟨a29, vl vs29, c29 * 3, 27⟩, ⟨a37, vl (unR T), c37 * 3, 27⟩] ([(23, .int .i64 (i : Int))] ++ [(5, _), (8, _), (20, _)]) _ _
                            refine V.seq ?_
                            refine V.seq ?_
                            refine V.region ?_
                            refine VL.r (.inl rfl) rfl (by decide) (yr_move rfl rfl) ?_
                            refine VL.r (.inl rfl) rfl (by decide) (yr_fieldAddr rfl Try.underlying30 rfl rfl sz28_Pm (by decide) rfl) ?_
                            refine VL.q (.inl rfl) rfl (by decide) (yq_load rfl fb28_Pm rfl (by first | exact Sees.root (by assumption) | exact Sees.own (by repeat (first | exact List.mem_cons_self | exact List.mem_append_left _ (by assumption) | apply List.mem_cons_of_mem | apply List.mem_append_right)) | exact Sees.root (hR _ (by omega)) | exact Sees.own (RowsIn.mem (by repeat (first | exact RowsIn.here | exact RowsIn.last | apply RowsIn.there | apply RowsIn.thereS)) _ (by omega)) | exact Sees.own (WRowsIn.mem (by repeat (first | exact WRowsIn.here | exact WRowsIn.last | apply WRowsIn.there | apply WRowsIn.thereS)) _ (by omega))) rfl) ?_
                            refine VL.r (.inl rfl) rfl (by decide) (yr_len rfl Try.underlying28 rfl) ?_
                            refine VL.r (.inl rfl) rfl (by decide) (yr_icmp rfl (.inr (.inr (.inl rfl))) rfl rfl) ?_
                            refine VL.nil ?_
                            refine VE.then_wp ?_
                            refine V.cond rfl (fun h14 => ?_) (fun h14 => ?_)
                            · skip
                              replace h14 := ic_lss h14
                              have hv9 := node_q hpm.qs (show i < vs29.length by omega)
                              have hu9 := node_r hpm.num (show i < vs29.length by omega)
                              have hul : i < (unR T).length := by rw [hpm.len]; omega
                              refine V.skip ?_
                              refine VE.then_wp ?_
                              refine V.seq ?_
                              refine V.block ?_
                              refine V.seq ?_
                              refine V.draw [(0, 0), (1, 0), (2, 0), (3, 0), (4, 0), (5, 0), (6, 0), (7, 0), (8, 0), (9, 0), (10, 0), (11, 2), (12, 3)] mixed_Pm (by kernel_rfl) (by intro j o hj ho; simp only [List.mem_cons, List.mem_nil_iff, Prod.mk.injEq, or_false, false_or, reduceCtorEq, and_false, and_true, Nat.reduceEqDiff] at hj; subst hj; cases ho; exact ⟨rfl, ⟨_, _, rfl, by first | exact zero27_Pm⟩, _, rfl, by decide⟩) ?_
                              refine SW.r rfl (.inl rfl) rfl (by decide) (yr_fieldAddr rfl Try.underlying30 rfl rfl sz28_Pm (by decide) rfl) ?_
                              refine SW.q rfl (.inl rfl) rfl (by decide) (yq_load rfl fb28_Pm rfl (by first | exact Sees.root (by assumption) | exact Sees.own (by repeat (first | exact List.mem_cons_self | exact List.mem_append_left _ (by assumption) | apply List.mem_cons_of_mem | apply List.mem_append_right)) | exact Sees.root (hR _ (by omega)) | exact Sees.own (RowsIn.mem (by repeat (first | exact RowsIn.here | exact RowsIn.last | apply RowsIn.there | apply RowsIn.thereS)) _ (by omega)) | exact Sees.own (WRowsIn.mem (by repeat (first | exact WRowsIn.here | exact WRowsIn.last | apply WRowsIn.there | apply WRowsIn.thereS)) _ (by omega))) rfl) ?_
                              refine SW.r rfl (.inl rfl) rfl (by decide) (yr_move rfl rfl) ?_
                              refine SW.q rfl (.inl rfl) rfl (by decide) (yq_idxN (k := i) rfl Try.underlying28 sz27_Pm rfl rfl (by first | exact Sees.root (by assumption) | exact Sees.own (by repeat (first | exact List.mem_cons_self | exact List.mem_append_left _ (by assumption) | apply List.mem_cons_of_mem | apply List.mem_append_right)) | exact Sees.root (hR _ (by omega)) | exact Sees.own (RowsIn.mem (by repeat (first | exact RowsIn.here | exact RowsIn.last | apply RowsIn.there | apply RowsIn.thereS)) _ (by omega)) | exact Sees.own (WRowsIn.mem (by repeat (first | exact WRowsIn.here | exact WRowsIn.last | apply WRowsIn.there | apply WRowsIn.thereS)) _ (by omega))) (by first | rfl | omega | (push_cast; rfl) | (push_cast; omega) | exact tmod_nat _ _) (by exact vl_length _) (by decide) (by omega)) ?_
                              refine SW.q rfl (.inl rfl) rfl (by decide) (YQ.cast (congrArg vv hv9) (yq_loadV rfl Try.underlying27 sz27_Pm rfl (by first | exact Sees.root (by assumption) | exact Sees.own (by repeat (first | exact List.mem_cons_self | exact List.mem_append_left _ (by assumption) | apply List.mem_cons_of_mem | apply List.mem_append_right)) | exact Sees.root (hR _ (by omega)) | exact Sees.own (RowsIn.mem (by repeat (first | exact RowsIn.here | exact RowsIn.last | apply RowsIn.there | apply RowsIn.thereS)) _ (by omega)) | exact Sees.own (WRowsIn.mem (by repeat (first | exact WRowsIn.here | exact WRowsIn.last | apply WRowsIn.there | apply WRowsIn.thereS)) _ (by omega))) (by omega))) ?_
                              refine SW.r rfl (.inl rfl) rfl (by decide) (yr_fieldAddr rfl Try.underlying30 rfl rfl sz28_Pm (by decide) rfl) ?_
                              refine SW.q rfl (.inl rfl) rfl (by decide) (yq_load rfl fb28_Pm rfl (by first | exact Sees.root (by assumption) | exact Sees.own (by repeat (first | exact List.mem_cons_self | exact List.mem_append_left _ (by assumption) | apply List.mem_cons_of_mem | apply List.mem_append_right)) | exact Sees.root (hR _ (by omega)) | exact Sees.own (RowsIn.mem (by repeat (first | exact RowsIn.here | exact RowsIn.last | apply RowsIn.there | apply RowsIn.thereS)) _ (by omega)) | exact Sees.own (WRowsIn.mem (by repeat (first | exact WRowsIn.here | exact WRowsIn.last | apply WRowsIn.there | apply WRowsIn.thereS)) _ (by omega))) rfl) ?_
                              refine SW.r rfl (.inl rfl) rfl (by decide) (yr_move rfl rfl) ?_
                              refine SW.q rfl (.inl rfl) rfl (by decide) (yq_idxN (k := i) rfl Try.underlying28 sz27_Pm rfl rfl (by first | exact Sees.root (by assumption) | exact Sees.own (by repeat (first | exact List.mem_cons_self | exact List.mem_append_left _ (by assumption) | apply List.mem_cons_of_mem | apply List.mem_append_right)) | exact Sees.root (hR _ (by omega)) | exact Sees.own (RowsIn.mem (by repeat (first | exact RowsIn.here | exact RowsIn.last | apply RowsIn.there | apply RowsIn.thereS)) _ (by omega)) | exact Sees.own (WRowsIn.mem (by repeat (first | exact WRowsIn.here | exact WRowsIn.last | apply WRowsIn.there | apply WRowsIn.thereS)) _ (by omega))) (by first | rfl | omega | (push_cast; rfl) | (push_cast; omega) | exact tmod_nat _ _) (by exact vl_length _) (by decide) (by omega)) ?_
                              refine SW.q rfl (.inl rfl) rfl (by decide) (YQ.cast (congrArg vv hu9) (yq_loadV rfl Try.underlying27 sz27_Pm rfl (by first | exact Sees.root (by assumption) | exact Sees.own (by repeat (first | exact List.mem_cons_self | exact List.mem_append_left _ (by assumption) | apply List.mem_cons_of_mem | apply List.mem_append_right)) | exact Sees.root (hR _ (by omega)) | exact Sees.own (RowsIn.mem (by repeat (first | exact RowsIn.here | exact RowsIn.last | apply RowsIn.there | apply RowsIn.thereS)) _ (by omega)) | exact Sees.own (WRowsIn.mem (by repeat (first | exact WRowsIn.here | exact WRowsIn.last | apply WRowsIn.there | apply WRowsIn.thereS)) _ (by omega))) (by omega))) ?_
                              refine SW.q rfl (.inl rfl) rfl (by decide) (yq_callf rfl known30_Pm (.cons rfl (.cons rfl .nil)) (fun w hw => c_sub3)) ?_
                              refine SW.a rfl rfl rfl zero27_Pm rfl rfl (by decide) ?_
                              intro b24
                              refine SW.s rfl (.inl rfl) rfl (yc_store rfl sz27_Pm rfl rfl (by repeat (first | exact UpdF.here | apply UpdF.there | apply UpdF.thereS)) (.inr ⟨rfl, rfl⟩) rfl (by first | exact Nat.le_of_ble_eq_true rfl | simp) (by decide) rfl) ?_
                              rintro ⟨⟩
                              refine SW.done ?_
                              refine VE.then_wp ?_
                              refine V.seq ?_
                              refine V.draw [(0, 0), (1, 0), (2, 0), (3, 0), (4, 0), (5, 0), (6, 0), (7, 0), (8, 0), (9, 0), (10, 0), (11, 0), (12, 0), (13, 0), (14, 0), (15, 0)] mixed_Pm (by kernel_rfl) (by intro j o hj; simp at hj) ?_
                              refine SW.r rfl (.inl rfl) rfl (by decide) (yr_fieldAddr rfl Try.underlying27 rfl rfl sz23_Pm (by decide) rfl) ?_
                              refine SW.q rfl (.inl rfl) rfl (by decide) (yq_load rfl fb23_Pm rfl (by first | exact Sees.root (by assumption) | exact Sees.own (by repeat (first | exact List.mem_cons_self | exact List.mem_append_left _ (by assumption) | apply List.mem_cons_of_mem | apply List.mem_append_right)) | exact Sees.root (hR _ (by omega)) | exact Sees.own (RowsIn.mem (by repeat (first | exact RowsIn.here | exact RowsIn.last | apply RowsIn.there | apply RowsIn.thereS)) _ (by omega)) | exact Sees.own (WRowsIn.mem (by repeat (first | exact WRowsIn.here | exact WRowsIn.last | apply WRowsIn.there | apply WRowsIn.thereS)) _ (by omega))) rfl) ?_
                              refine SW.r rfl (.inl rfl) rfl (by decide) (yr_fconv rfl Try.underlying23 Try.underlying56 (by decide) rfl (fover_up _)) ?_
                              refine SW.q rfl (.inl rfl) rfl (by decide) (yq_callf rfl known29_Pm (.cons rfl (.cons rfl .nil)) (fun w hw => (c_r8Gap (x := up (fop .sub .f32 (qw (ks (i * 3))) (rvw (Mx ks (vs29.length * 3)) (ks (i * 3))))) (y := 0) (gap_r hpm.qs (show i * 3 + 0 < _ by omega)).2.2.2.2.1 (gap_r hpm.qs (show i * 3 + 0 < _ by omega)).2.2.2.2.2))) ?_
                              refine SW.r rfl (.inl rfl) rfl (by decide) (yr_fieldAddr rfl Try.underlying27 rfl rfl sz23_Pm (by decide) rfl) ?_
                              refine SW.q rfl (.inl rfl) rfl (by decide) (yq_load rfl fb23_Pm rfl (by first | exact Sees.root (by assumption) | exact Sees.own (by repeat (first | exact List.mem_cons_self | exact List.mem_append_left _ (by assumption) | apply List.mem_cons_of_mem | apply List.mem_append_right)) | exact Sees.root (hR _ (by omega)) | exact Sees.own (RowsIn.mem (by repeat (first | exact RowsIn.here | exact RowsIn.last | apply RowsIn.there | apply RowsIn.thereS)) _ (by omega)) | exact Sees.own (WRowsIn.mem (by repeat (first | exact WRowsIn.here | exact WRowsIn.last | apply WRowsIn.there | apply WRowsIn.thereS)) _ (by omega))) rfl) ?_
                              refine SW.r rfl (.inl rfl) rfl (by decide) (yr_fconv rfl Try.underlying23 Try.underlying56 (by decide) rfl (fover_up _)) ?_
                              refine SW.q rfl (.inl rfl) rfl (by decide) (yq_callf rfl known29_Pm (.cons rfl (.cons rfl .nil)) (fun w hw => (c_r8Gap (x := up (fop .sub .f32 (qw (ks (i * 3 + 1))) (rvw (Mx ks (vs29.length * 3)) (ks (i * 3 + 1))))) (y := 0) (gap_r hpm.qs (show i * 3 + 1 < _ by omega)).2.2.2.2.1 (gap_r hpm.qs (show i * 3 + 1 < _ by omega)).2.2.2.2.2))) ?_
                              refine SW.r rfl (.inl rfl) rfl (by decide) (yr_fieldAddr rfl Try.underlying27 rfl rfl sz23_Pm (by decide) rfl) ?_
                              refine SW.q rfl (.inl rfl) rfl (by decide) (yq_load rfl fb23_Pm rfl (by first | exact Sees.root (by assumption) | exact Sees.own (by repeat (first | exact List.mem_cons_self | exact List.mem_append_left _ (by assumption) | apply List.mem_cons_of_mem | apply List.mem_append_right)) | exact Sees.root (hR _ (by omega)) | exact Sees.own (RowsIn.mem (by repeat (first | exact RowsIn.here | exact RowsIn.last | apply RowsIn.there | apply RowsIn.thereS)) _ (by omega)) | exact Sees.own (WRowsIn.mem (by repeat (first | exact WRowsIn.here | exact WRowsIn.last | apply WRowsIn.there | apply WRowsIn.thereS)) _ (by omega))) rfl) ?_
                              refine SW.r rfl (.inl rfl) rfl (by decide) (yr_fconv rfl Try.underlying23 Try.underlying56 (by decide) rfl (fover_up _)) ?_
                              refine SW.q rfl (.inl rfl) rfl (by decide) (yq_callf rfl known29_Pm (.cons rfl (.cons rfl .nil)) (fun w hw => (c_r8Gap (x := up (fop .sub .f32 (qw (ks (i * 3 + 2))) (rvw (Mx ks (vs29.length * 3)) (ks (i * 3 + 2))))) (y := 0) (gap_r hpm.qs (show i * 3 + 2 < _ by omega)).2.2.2.2.1 (gap_r hpm.qs (show i * 3 + 2 < _ by omega)).2.2.2.2.2))) ?_
                              refine SW.r rfl (.inl rfl) rfl (by decide) (yr_maxF (k := .f64) (gap64 (up (fop .sub .f32 (qw (ks (i * 3))) (rvw (Mx ks (vs29.length * 3)) (ks (i * 3))))) 0) [(gap64 (up (fop .sub .f32 (qw (ks (i * 3 + 1))) (rvw (Mx ks (vs29.length * 3)) (ks (i * 3 + 1))))) 0), (gap64 (up (fop .sub .f32 (qw (ks (i * 3 + 2))) (rvw (Mx ks (vs29.length * 3)) (ks (i * 3 + 2))))) 0)] rfl (.cons rfl (.cons rfl (.cons rfl .nil))) (nn3 (gap_r hpm.qs (show i * 3 + 0 < _ by omega)).2.2.2.1 (gap_r hpm.qs (show i * 3 + 1 < _ by omega)).2.2.2.1 (gap_r hpm.qs (show i * 3 + 2 < _ by omega)).2.2.2.1)) ?_
                              refine SW.r rfl (.inl rfl) rfl (by decide) (yr_move rfl rfl) ?_
                              refine SW.r rfl (.inl rfl) rfl (by decide) (yr_float (b := 4674736138332667904) rfl (.inr (.inr (.inr rfl))) rfl rfl) ?_
                              refine SW.r rfl (.inl rfl) rfl (by decide) (yr_fcmp rfl (.inr (.inr (.inr (.inr (.inl rfl))))) rfl rfl) ?_
                              refine SW.done ?_
                              refine VE.then_wp ?_
                              refine V.cond rfl (fun h15 => ?_) (fun h15 => ?_)
                              · skip
                                exact absurd (h15.symm.trans (gtr_max3 (gap_r hpm.qs (show i * 3 + 0 < _ by omega)).2.2.2.1 (gap_r hpm.qs (show i * 3 + 1 < _ by omega)).2.2.2.1 (gap_r hpm.qs (show i * 3 + 2 < _ by omega)).2.2.2.1 (gap_r hpm.qs (show i * 3 + 0 < _ by omega)).2.2.1 (gap_r hpm.qs (show i * 3 + 1 < _ by omega)).2.2.1 (gap_r hpm.qs (show i * 3 + 2 < _ by omega)).2.2.1)) (by decide)
                              · skip
                                refine V.skip ?_
                                refine VE.block_normal ?_
                                refine VE.then_wp ?_
                                refine V.region ?_
                                refine VL.r (.inl rfl) rfl (by decide) (yr_move rfl rfl) ?_
                                refine VL.r (.inl rfl) rfl (by decide) (yr_int rfl rfl rfl (.inl ⟨rfl, wrap_in (by omega)⟩)) ?_
                                refine VL.r (.inl rfl) rfl (by decide) (yr_assign rfl rfl) ?_
                                refine VL.nil ?_
                                refine VE.round (i + 1) ?_ ?_ ?_ ?_ ?_
                                · exact (.cons rfl .nil)
                                · exact (.cons rfl (.cons rfl (.cons rfl .nil)))
                                · exact (fun w hw => hw.sub (List.sublist_cons_self _ _))
                                · omega
                                · (try dsimp only); omega
                            · skip
                              replace h14 := ic_lss' h14
                              refine V.exit ?_
                              refine VE.then_exit ?_
                              refine VE.then_exit ?_
                              refine VE.block_here ?_
                              refine VE.then_wp ?_
                              refine V.seq ?_
                              refine V.region ?_
                              refine VL.r (.inl rfl) rfl (by decide) (yr_assign (u := .bool true) rfl rfl) ?_
                              refine VL.nil ?_
                              refine VE.then_wp ?_
                              refine V.ret ?_
                              refine ret1 rfl rfl (fun w1 hw => ?_)
                              exact ⟨rfl, hw.below⟩

end Go.Proofs.Ytnommdpgmoljcaa

