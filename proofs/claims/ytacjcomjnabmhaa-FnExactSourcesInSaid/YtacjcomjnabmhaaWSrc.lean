/- Walks: Src. Printed by gen.py. -/
import Derived.Test.YtacjcomjnabmhaaWMesh
import Derived.Test.YtacjcomjnabmhaaWRows
import Derived.KernelRfl
namespace Go.Proofs.Ytacjcomjnabmhaa
open Go.RowKit
set_option linter.unusedVariables false
set_option linter.unusedSimpArgs false
set_option maxRecDepth 20000

theorem sz2_Src : (Try.prog.info? 2).map (·.size) = some 1 := by kernel_rfl
theorem fb2_Src : flatB Try.prog 2 = true := by kernel_rfl
theorem known69_Src : Known Try.prog 69 := Known.mk' Try.func69 (by kernel_rfl)
theorem mixed_Src : Try.prog.follows .mixedOrders = true := by kernel_rfl
theorem sz35_Src : (Try.prog.info? 35).map (·.size) = some 8 := by kernel_rfl
theorem known70_Src : Known Try.prog 70 := Known.mk' Try.func70 (by kernel_rfl)
theorem fb22_Src : flatB Try.prog 22 = true := by kernel_rfl
theorem fb29_Src : flatB Try.prog 29 = true := by kernel_rfl
theorem elt22_Src : Elt Try.prog 22 [Value.float .f32 0] 4 := Elt.mk' (by kernel_rfl) (by decide)
theorem sz29_Src : (Try.prog.info? 29).map (·.size) = some 1 := by kernel_rfl
theorem known66_Src : Known Try.prog 66 := Known.mk' Try.func66 (by kernel_rfl)
theorem zero29_Src : (Try.prog.info? 29).bind (·.zero) = some (Value.slice none 0 0) := by kernel_rfl
theorem sz22_Src : (Try.prog.info? 22).map (·.size) = some 1 := by kernel_rfl
theorem zero22_Src : (Try.prog.info? 22).bind (·.zero) = some (Value.float .f32 0) := by kernel_rfl
theorem known68_Src : Known Try.prog 68 := Known.mk' Try.func68 (by kernel_rfl)
theorem known67_Src : Known Try.prog 67 := Known.mk' Try.func67 (by kernel_rfl)
theorem known71_Src : Known Try.prog 71 := Known.mk' Try.func71 (by kernel_rfl)
theorem known62_Src : Known Try.prog 62 := Known.mk' Try.func62 (by kernel_rfl)
theorem known63_Src : Known Try.prog 63 := Known.mk' Try.func63 (by kernel_rfl)
theorem known64_Src : Known Try.prog 64 := Known.mk' Try.func64 (by kernel_rfl)
theorem sz27_Src : (Try.prog.info? 27).map (·.size) = some 8 := by kernel_rfl
theorem known14_Src : Known Try.prog 14 := Known.mk' Try.func14 (by kernel_rfl)
theorem known16_Src : Known Try.prog 16 := Known.mk' Try.func16 (by kernel_rfl)
theorem known15_Src : Known Try.prog 15 := Known.mk' Try.func15 (by kernel_rfl)
theorem zero35_Src : (Try.prog.info? 35).bind (·.zero) = some (Value.agg #[Value.float .f32 0, Value.float .f32 0, Value.float .f32 0, Value.float .f32 0, Value.int .i64 0, Value.int .i64 0, Value.int .i64 0, Value.slice none 0 0]) := by kernel_rfl
theorem known17_Src : Known Try.prog 17 := Known.mk' Try.func17 (by kernel_rfl)
theorem known18_Src : Known Try.prog 18 := Known.mk' Try.func18 (by kernel_rfl)
theorem known19_Src : Known Try.prog 19 := Known.mk' Try.func19 (by kernel_rfl)
theorem known20_Src : Known Try.prog 20 := Known.mk' Try.func20 (by kernel_rfl)
theorem known21_Src : Known Try.prog 21 := Known.mk' Try.func21 (by kernel_rfl)
theorem known22_Src : Known Try.prog 22 := Known.mk' Try.func22 (by kernel_rfl)
attribute [local irreducible] fop fcmp fconv sqrt32 fneg List.getD

theorem c_srcNode {w0 : World} {f1 f2 f3 st W H D : Nat} {a : Option Addr} {c : Nat} {vs : List V3} {x y z tw bm bb bo : Nat} {ar : Option Addr} {cr : Nat} (hA : Cl w0 a (vl vs)) (hN : vs.length = W * H * D) (hbd : W * H * D ≤ 216) (hle : W ≤ 216 ∧ H ≤ 216 ∧ D ≤ 216) (hx : x < W) (hy : y < H) (hz : z < D) : Mut Try.prog 68 [.int .i64 (x : Int), .int .i64 (y : Int), .int .i64 (z : Int), .pointer (some (adr (some ⟨bm, 0, none⟩) 0)), .pointer (some (adr (some ⟨bb, 0, none⟩) 0)), .pointer (some (adr (some ⟨bo, 0, none⟩) 0))] w0 [⟨some ⟨bm, 0, none⟩, [.float .f32 f1, .float .f32 f2, .float .f32 f3, .float .f32 st, .int .i64 (W : Int), .int .i64 (H : Int), .int .i64 (D : Int), .slice a vs.length c], 8, 35⟩, ⟨some ⟨bb, 0, none⟩, [.float .f32 tw], 1, 22⟩, ⟨some ⟨bo, 0, none⟩, [.slice ar (srcU vs W H D tw (nd W H x y z)).length cr], 1, 29⟩, ⟨ar, fl (srcU vs W H D tw (nd W H x y z)), cr * 1, 22⟩] (fun _ : Option Addr × Nat => .tuple #[]) (fun p => [⟨some ⟨bm, 0, none⟩, [.float .f32 f1, .float .f32 f2, .float .f32 f3, .float .f32 st, .int .i64 (W : Int), .int .i64 (H : Int), .int .i64 (D : Int), .slice a vs.length c], 8, 35⟩, ⟨some ⟨bb, 0, none⟩, [.float .f32 tw], 1, 22⟩, ⟨some ⟨bo, 0, none⟩, [.slice p.1 (srcU vs W H D tw (nd W H x y z + 1)).length p.2], 1, 29⟩, ⟨p.1, fl (srcU vs W H D tw (nd W H x y z + 1)), p.2 * 1, 22⟩]) := by
  refine Mut.enter Try.func68 rfl Try.ntmps68 (Nat.le_of_ble_eq_true rfl) ?_
  intro F
  have hnd := nd_facts (W := W) (H := H) (D := D) (x := x) (y := y) (z := z) (by omega) (by omega) (by omega) hbd
  have hl8 := srcU_length (vs := vs) (W := W) (H := H) (D := D) (tw := tw) (nd W H x y z)
  refine V.seq ?_
  refine V.seq ?_
  refine V.region ?_
  refine VL.r (.inl rfl) rfl (by decide) (yr_move rfl rfl) ?_
  refine VL.r (.inl rfl) rfl (by decide) (yr_fieldAddr rfl Try.underlying35 rfl rfl sz2_Src (by decide) rfl) ?_
  refine VL.q (.inl rfl) rfl (by decide) (yq_load rfl fb2_Src rfl (by first | exact Sees.root (by assumption) | exact Sees.own (by repeat (first | exact List.mem_cons_self | exact List.mem_append_left _ (by assumption) | apply List.mem_cons_of_mem | apply List.mem_append_right)) | exact Sees.root (hR _ (by omega)) | exact Sees.own (RowsIn.mem (by repeat (first | exact RowsIn.here | exact RowsIn.last | apply RowsIn.there | apply RowsIn.thereS)) _ (by omega)) | exact Sees.own (WRowsIn.mem (by repeat (first | exact WRowsIn.here | exact WRowsIn.last | apply WRowsIn.there | apply WRowsIn.thereS)) _ (by omega))) rfl) ?_
  refine VL.r (.inl rfl) rfl (by decide) (yr_int rfl rfl rfl (.inr (.inl ⟨rfl, wrap_in (by omega)⟩))) ?_
  refine VL.q (.inl rfl) rfl (by decide) (yq_callf rfl known69_Src (.cons rfl (.cons rfl (.cons rfl .nil))) (fun w hw => c_within)) ?_
  refine VL.r (.inl rfl) rfl (by decide) (yr_not rfl rfl) ?_
  refine VL.r (.inl rfl) rfl (by decide) (yr_move rfl rfl) ?_
  refine VX.split 16 _ rfl (fun h1 => ?_) (fun h1 => ?_)
  · skip
    replace h1 := bnot_t h1
    have gx := of_decide_eq_false h1
    refine VL.no rfl rfl rfl rfl rfl (by decide) ?_
    refine VL.no rfl rfl rfl rfl rfl (by decide) ?_
    refine VL.no rfl rfl rfl rfl rfl (by decide) ?_
    refine VL.no rfl rfl rfl rfl rfl (by decide) ?_
    refine VL.no rfl rfl rfl rfl rfl (by decide) ?_
    refine VL.no rfl rfl rfl rfl rfl (by decide) ?_
    refine VL.r (.inl rfl) rfl (by decide) (yr_pick_t (u := .bool true) rfl rfl rfl) ?_
    refine VL.r (.inl rfl) rfl (by decide) (yr_move rfl rfl) ?_
    refine VL.no rfl rfl rfl rfl rfl (by decide) ?_
    refine VL.no rfl rfl rfl rfl rfl (by decide) ?_
    refine VL.no rfl rfl rfl rfl rfl (by decide) ?_
    refine VL.no rfl rfl rfl rfl rfl (by decide) ?_
    refine VL.no rfl rfl rfl rfl rfl (by decide) ?_
    refine VL.no rfl rfl rfl rfl rfl (by decide) ?_
    refine VL.r (.inl rfl) rfl (by decide) (yr_pick_t (u := .bool true) rfl rfl rfl) ?_
    refine VL.nil ?_
    refine VE.then_wp ?_
    refine V.condT rfl ?_
    refine V.ret ?_
    refine VE.then_ret ?_
    refine ret0 rfl (fun w1 hw => ?_)
    first
      | (have h8 := hw.sub (List.sublist_cons_self _ _)
         refine ⟨(a92, c92), rfl, ?_⟩
         rw [srcU_in hx hy ⟨by omega, by omega, by omega, by omega, by omega, by omega⟩, List.length_append, ← fl_snoc]
         exact h8)
      | exact ⟨(ar, cr), rfl, by rw [srcU_out hx hy (by omega)]; exact hw⟩
  · skip
    replace h1 := bnot_f h1
    have gx := of_decide_eq_true h1
    refine VL.r (.inr ⟨_, _, _, rfl, rfl, rfl⟩) rfl (by decide) (yr_move rfl rfl) ?_
    refine VL.r (.inr ⟨_, _, _, rfl, rfl, rfl⟩) rfl (by decide) (yr_fieldAddr rfl Try.underlying35 rfl rfl sz2_Src (by decide) rfl) ?_
    refine VL.q (.inr ⟨_, _, _, rfl, rfl, rfl⟩) rfl (by decide) (yq_load rfl fb2_Src rfl (by first | exact Sees.root (by assumption) | exact Sees.own (by repeat (first | exact List.mem_cons_self | exact List.mem_append_left _ (by assumption) | apply List.mem_cons_of_mem | apply List.mem_append_right)) | exact Sees.root (hR _ (by omega)) | exact Sees.own (RowsIn.mem (by repeat (first | exact RowsIn.here | exact RowsIn.last | apply RowsIn.there | apply RowsIn.thereS)) _ (by omega)) | exact Sees.own (WRowsIn.mem (by repeat (first | exact WRowsIn.here | exact WRowsIn.last | apply WRowsIn.there | apply WRowsIn.thereS)) _ (by omega))) rfl) ?_
    refine VL.r (.inr ⟨_, _, _, rfl, rfl, rfl⟩) rfl (by decide) (yr_int rfl rfl rfl (.inr (.inl ⟨rfl, wrap_in (by omega)⟩))) ?_
    refine VL.q (.inr ⟨_, _, _, rfl, rfl, rfl⟩) rfl (by decide) (yq_callf rfl known69_Src (.cons rfl (.cons rfl (.cons rfl .nil))) (fun w hw => c_within)) ?_
    refine VL.r (.inr ⟨_, _, _, rfl, rfl, rfl⟩) rfl (by decide) (yr_not rfl rfl) ?_
    refine VL.r (.inl rfl) rfl (by decide) (yr_pick_f rfl rfl rfl) ?_
    refine VL.r (.inl rfl) rfl (by decide) (yr_move rfl rfl) ?_
    refine VX.split 24 _ rfl (fun h3 => ?_) (fun h3 => ?_)
    · skip
      replace h3 := bnot_t h3
      have gy := of_decide_eq_false h3
      refine VL.no rfl rfl rfl rfl rfl (by decide) ?_
      refine VL.no rfl rfl rfl rfl rfl (by decide) ?_
      refine VL.no rfl rfl rfl rfl rfl (by decide) ?_
      refine VL.no rfl rfl rfl rfl rfl (by decide) ?_
      refine VL.no rfl rfl rfl rfl rfl (by decide) ?_
      refine VL.no rfl rfl rfl rfl rfl (by decide) ?_
      refine VL.r (.inl rfl) rfl (by decide) (yr_pick_t (u := .bool true) rfl rfl rfl) ?_
      refine VL.nil ?_
      refine VE.then_wp ?_
      refine V.condT rfl ?_
      refine V.ret ?_
      refine VE.then_ret ?_
      refine ret0 rfl (fun w1 hw => ?_)
      first
        | (have h8 := hw.sub (List.sublist_cons_self _ _)
           refine ⟨(a92, c92), rfl, ?_⟩
           rw [srcU_in hx hy ⟨by omega, by omega, by omega, by omega, by omega, by omega⟩, List.length_append, ← fl_snoc]
           exact h8)
        | exact ⟨(ar, cr), rfl, by rw [srcU_out hx hy (by omega)]; exact hw⟩
    · skip
      replace h3 := bnot_f h3
      have gy := of_decide_eq_true h3
      refine VL.r (.inr ⟨_, _, _, rfl, rfl, rfl⟩) rfl (by decide) (yr_move rfl rfl) ?_
      refine VL.r (.inr ⟨_, _, _, rfl, rfl, rfl⟩) rfl (by decide) (yr_fieldAddr rfl Try.underlying35 rfl rfl sz2_Src (by decide) rfl) ?_
      refine VL.q (.inr ⟨_, _, _, rfl, rfl, rfl⟩) rfl (by decide) (yq_load rfl fb2_Src rfl (by first | exact Sees.root (by assumption) | exact Sees.own (by repeat (first | exact List.mem_cons_self | exact List.mem_append_left _ (by assumption) | apply List.mem_cons_of_mem | apply List.mem_append_right)) | exact Sees.root (hR _ (by omega)) | exact Sees.own (RowsIn.mem (by repeat (first | exact RowsIn.here | exact RowsIn.last | apply RowsIn.there | apply RowsIn.thereS)) _ (by omega)) | exact Sees.own (WRowsIn.mem (by repeat (first | exact WRowsIn.here | exact WRowsIn.last | apply WRowsIn.there | apply WRowsIn.thereS)) _ (by omega))) rfl) ?_
      refine VL.r (.inr ⟨_, _, _, rfl, rfl, rfl⟩) rfl (by decide) (yr_int rfl rfl rfl (.inr (.inl ⟨rfl, wrap_in (by omega)⟩))) ?_
      refine VL.q (.inr ⟨_, _, _, rfl, rfl, rfl⟩) rfl (by decide) (yq_callf rfl known69_Src (.cons rfl (.cons rfl (.cons rfl .nil))) (fun w hw => c_within)) ?_
      refine VL.r (.inr ⟨_, _, _, rfl, rfl, rfl⟩) rfl (by decide) (yr_not rfl rfl) ?_
      refine VL.r (.inl rfl) rfl (by decide) (yr_pick_f rfl rfl rfl) ?_
      refine VL.nil ?_
      refine VE.then_wp ?_
      refine V.cond rfl (fun h5 => ?_) (fun h5 => ?_)
      · skip
        replace h5 := bnot_t h5
        have gz := of_decide_eq_false h5
        refine V.ret ?_
        refine VE.then_ret ?_
        refine ret0 rfl (fun w1 hw => ?_)
        first
          | (have h8 := hw.sub (List.sublist_cons_self _ _)
             refine ⟨(a92, c92), rfl, ?_⟩
             rw [srcU_in hx hy ⟨by omega, by omega, by omega, by omega, by omega, by omega⟩, List.length_append, ← fl_snoc]
             exact h8)
          | exact ⟨(ar, cr), rfl, by rw [srcU_out hx hy (by omega)]; exact hw⟩
      · skip
        replace h5 := bnot_f h5
        have gz := of_decide_eq_true h5
        refine V.skip ?_
        refine VE.then_wp ?_
        refine V.seq ?_
        refine V.region ?_
        refine VL.r (.inl rfl) rfl (by decide) (yr_assign (u := .float .f32 0) rfl rfl) ?_
        refine VL.nil ?_
        refine VE.then_wp ?_
        refine V.seq ?_
        refine V.draw [(0, 0), (1, 0), (2, 0), (3, 0), (4, 0), (5, 0), (6, 0), (7, 0), (8, 0), (9, 0), (10, 0), (11, 0), (12, 0), (13, 0), (14, 0), (15, 0), (16, 0), (17, 0), (18, 0), (19, 0)] mixed_Src (by kernel_rfl) (by intro j o hj; simp at hj) ?_
        refine SW.r rfl (.inl rfl) rfl (by decide) (yr_move rfl rfl) ?_
        refine SW.q rfl (.inl rfl) rfl (by decide) (yq_loadS rfl Try.underlying35 sz35_Src rfl (by first | exact Sees.root (by assumption) | exact Sees.own (by repeat (first | exact List.mem_cons_self | exact List.mem_append_left _ (by assumption) | apply List.mem_cons_of_mem | apply List.mem_append_right)) | exact Sees.root (hR _ (by omega)) | exact Sees.own (RowsIn.mem (by repeat (first | exact RowsIn.here | exact RowsIn.last | apply RowsIn.there | apply RowsIn.thereS)) _ (by omega)) | exact Sees.own (WRowsIn.mem (by repeat (first | exact WRowsIn.here | exact WRowsIn.last | apply WRowsIn.there | apply WRowsIn.thereS)) _ (by omega))) rfl rfl rfl) ?_
        refine SW.r rfl (.inl rfl) rfl (by decide) (yr_move rfl rfl) ?_
        refine SW.r rfl (.inl rfl) rfl (by decide) (yr_addN (x + 1) rfl rfl rfl (by omega) (by omega)) ?_
        refine SW.r rfl (.inl rfl) rfl (by decide) (yr_move rfl rfl) ?_
        refine SW.r rfl (.inl rfl) rfl (by decide) (yr_move rfl rfl) ?_
        refine SW.q rfl (.inl rfl) rfl (by decide) (yq_callf rfl known70_Src (.cons rfl (.cons rfl (.cons rfl (.cons rfl .nil)))) (fun w hw => (c_at (x := x + 1) (y := y) (z := z) (by first | exact Sees.root (by assumption) w hw | exact Sees.own (by repeat (first | exact List.mem_cons_self | exact List.mem_append_left _ (by assumption) | apply List.mem_cons_of_mem | apply List.mem_append_right)) w hw) hN hbd (by omega) (by omega) (by omega)))) ?_
        refine SW.r rfl (.inl rfl) rfl (by decide) (yr_field rfl Try.underlying32 rfl rfl fb22_Src rfl rfl rfl) ?_
        refine SW.q rfl (.inl rfl) rfl (by decide) (yq_loadS rfl Try.underlying35 sz35_Src rfl (by first | exact Sees.root (by assumption) | exact Sees.own (by repeat (first | exact List.mem_cons_self | exact List.mem_append_left _ (by assumption) | apply List.mem_cons_of_mem | apply List.mem_append_right)) | exact Sees.root (hR _ (by omega)) | exact Sees.own (RowsIn.mem (by repeat (first | exact RowsIn.here | exact RowsIn.last | apply RowsIn.there | apply RowsIn.thereS)) _ (by omega)) | exact Sees.own (WRowsIn.mem (by repeat (first | exact WRowsIn.here | exact WRowsIn.last | apply WRowsIn.there | apply WRowsIn.thereS)) _ (by omega))) rfl rfl rfl) ?_
        refine SW.r rfl (.inl rfl) rfl (by decide) (yr_move rfl rfl) ?_
        refine SW.r rfl (.inl rfl) rfl (by decide) (yr_subN (x - 1) rfl rfl rfl (by omega) (by omega)) ?_
        refine SW.r rfl (.inl rfl) rfl (by decide) (yr_move rfl rfl) ?_
        refine SW.r rfl (.inl rfl) rfl (by decide) (yr_move rfl rfl) ?_
        refine SW.q rfl (.inl rfl) rfl (by decide) (yq_callf rfl known70_Src (.cons rfl (.cons rfl (.cons rfl (.cons rfl .nil)))) (fun w hw => (c_at (x := x - 1) (y := y) (z := z) (by first | exact Sees.root (by assumption) w hw | exact Sees.own (by repeat (first | exact List.mem_cons_self | exact List.mem_append_left _ (by assumption) | apply List.mem_cons_of_mem | apply List.mem_append_right)) w hw) hN hbd (by omega) (by omega) (by omega)))) ?_
        refine SW.r rfl (.inl rfl) rfl (by decide) (yr_field rfl Try.underlying32 rfl rfl fb22_Src rfl rfl rfl) ?_
        refine SW.r rfl (.inl rfl) rfl (by decide) (yr_float rfl (.inr (.inl rfl)) rfl rfl) ?_
        refine SW.q rfl (.inl rfl) rfl (by decide) (yq_load rfl fb22_Src rfl (by first | exact Sees.root (by assumption) | exact Sees.own (by repeat (first | exact List.mem_cons_self | exact List.mem_append_left _ (by assumption) | apply List.mem_cons_of_mem | apply List.mem_append_right)) | exact Sees.root (hR _ (by omega)) | exact Sees.own (RowsIn.mem (by repeat (first | exact RowsIn.here | exact RowsIn.last | apply RowsIn.there | apply RowsIn.thereS)) _ (by omega)) | exact Sees.own (WRowsIn.mem (by repeat (first | exact WRowsIn.here | exact WRowsIn.last | apply WRowsIn.there | apply WRowsIn.thereS)) _ (by omega))) rfl) ?_
        refine SW.r rfl (.inl rfl) rfl (by decide) (yr_float rfl (.inr (.inr (.inr rfl))) rfl rfl) ?_
        refine SW.r rfl (.inl rfl) rfl (by decide) (yr_float rfl (.inl rfl) rfl rfl) ?_
        refine SW.r rfl (.inl rfl) rfl (by decide) (yr_assign rfl rfl) ?_
        refine SW.done ?_
        refine VE.then_wp ?_
        refine V.seq ?_
        refine V.draw [(0, 0), (1, 0), (2, 0), (3, 0), (4, 0), (5, 0), (6, 0), (7, 0), (8, 0), (9, 0), (10, 0), (11, 0), (12, 0), (13, 0), (14, 0), (15, 0), (16, 0), (17, 0), (18, 0), (19, 0)] mixed_Src (by kernel_rfl) (by intro j o hj; simp at hj) ?_
        refine SW.r rfl (.inl rfl) rfl (by decide) (yr_move rfl rfl) ?_
        refine SW.q rfl (.inl rfl) rfl (by decide) (yq_loadS rfl Try.underlying35 sz35_Src rfl (by first | exact Sees.root (by assumption) | exact Sees.own (by repeat (first | exact List.mem_cons_self | exact List.mem_append_left _ (by assumption) | apply List.mem_cons_of_mem | apply List.mem_append_right)) | exact Sees.root (hR _ (by omega)) | exact Sees.own (RowsIn.mem (by repeat (first | exact RowsIn.here | exact RowsIn.last | apply RowsIn.there | apply RowsIn.thereS)) _ (by omega)) | exact Sees.own (WRowsIn.mem (by repeat (first | exact WRowsIn.here | exact WRowsIn.last | apply WRowsIn.there | apply WRowsIn.thereS)) _ (by omega))) rfl rfl rfl) ?_
        refine SW.r rfl (.inl rfl) rfl (by decide) (yr_move rfl rfl) ?_
        refine SW.r rfl (.inl rfl) rfl (by decide) (yr_move rfl rfl) ?_
        refine SW.r rfl (.inl rfl) rfl (by decide) (yr_addN (y + 1) rfl rfl rfl (by omega) (by omega)) ?_
        refine SW.r rfl (.inl rfl) rfl (by decide) (yr_move rfl rfl) ?_
        refine SW.q rfl (.inl rfl) rfl (by decide) (yq_callf rfl known70_Src (.cons rfl (.cons rfl (.cons rfl (.cons rfl .nil)))) (fun w hw => (c_at (x := x) (y := y + 1) (z := z) (by first | exact Sees.root (by assumption) w hw | exact Sees.own (by repeat (first | exact List.mem_cons_self | exact List.mem_append_left _ (by assumption) | apply List.mem_cons_of_mem | apply List.mem_append_right)) w hw) hN hbd (by omega) (by omega) (by omega)))) ?_
        refine SW.r rfl (.inl rfl) rfl (by decide) (yr_field rfl Try.underlying32 rfl rfl fb22_Src rfl rfl rfl) ?_
        refine SW.q rfl (.inl rfl) rfl (by decide) (yq_loadS rfl Try.underlying35 sz35_Src rfl (by first | exact Sees.root (by assumption) | exact Sees.own (by repeat (first | exact List.mem_cons_self | exact List.mem_append_left _ (by assumption) | apply List.mem_cons_of_mem | apply List.mem_append_right)) | exact Sees.root (hR _ (by omega)) | exact Sees.own (RowsIn.mem (by repeat (first | exact RowsIn.here | exact RowsIn.last | apply RowsIn.there | apply RowsIn.thereS)) _ (by omega)) | exact Sees.own (WRowsIn.mem (by repeat (first | exact WRowsIn.here | exact WRowsIn.last | apply WRowsIn.there | apply WRowsIn.thereS)) _ (by omega))) rfl rfl rfl) ?_
        refine SW.r rfl (.inl rfl) rfl (by decide) (yr_move rfl rfl) ?_
        refine SW.r rfl (.inl rfl) rfl (by decide) (yr_move rfl rfl) ?_
        refine SW.r rfl (.inl rfl) rfl (by decide) (yr_subN (y - 1) rfl rfl rfl (by omega) (by omega)) ?_
        refine SW.r rfl (.inl rfl) rfl (by decide) (yr_move rfl rfl) ?_
        refine SW.q rfl (.inl rfl) rfl (by decide) (yq_callf rfl known70_Src (.cons rfl (.cons rfl (.cons rfl (.cons rfl .nil)))) (fun w hw => (c_at (x := x) (y := y - 1) (z := z) (by first | exact Sees.root (by assumption) w hw | exact Sees.own (by repeat (first | exact List.mem_cons_self | exact List.mem_append_left _ (by assumption) | apply List.mem_cons_of_mem | apply List.mem_append_right)) w hw) hN hbd (by omega) (by omega) (by omega)))) ?_
        refine SW.r rfl (.inl rfl) rfl (by decide) (yr_field rfl Try.underlying32 rfl rfl fb22_Src rfl rfl rfl) ?_
        refine SW.r rfl (.inl rfl) rfl (by decide) (yr_float rfl (.inr (.inl rfl)) rfl rfl) ?_
        refine SW.q rfl (.inl rfl) rfl (by decide) (yq_load rfl fb22_Src rfl (by first | exact Sees.root (by assumption) | exact Sees.own (by repeat (first | exact List.mem_cons_self | exact List.mem_append_left _ (by assumption) | apply List.mem_cons_of_mem | apply List.mem_append_right)) | exact Sees.root (hR _ (by omega)) | exact Sees.own (RowsIn.mem (by repeat (first | exact RowsIn.here | exact RowsIn.last | apply RowsIn.there | apply RowsIn.thereS)) _ (by omega)) | exact Sees.own (WRowsIn.mem (by repeat (first | exact WRowsIn.here | exact WRowsIn.last | apply WRowsIn.there | apply WRowsIn.thereS)) _ (by omega))) rfl) ?_
        refine SW.r rfl (.inl rfl) rfl (by decide) (yr_float rfl (.inr (.inr (.inr rfl))) rfl rfl) ?_
        refine SW.r rfl (.inl rfl) rfl (by decide) (yr_float rfl (.inl rfl) rfl rfl) ?_
        refine SW.r rfl (.inl rfl) rfl (by decide) (yr_assign rfl rfl) ?_
        refine SW.done ?_
        refine VE.then_wp ?_
        refine V.seq ?_
        refine V.draw [(0, 0), (1, 0), (2, 0), (3, 0), (4, 0), (5, 0), (6, 0), (7, 0), (8, 0), (9, 0), (10, 0), (11, 0), (12, 0), (13, 0), (14, 0), (15, 0), (16, 0), (17, 0), (18, 0), (19, 0)] mixed_Src (by kernel_rfl) (by intro j o hj; simp at hj) ?_
        refine SW.r rfl (.inl rfl) rfl (by decide) (yr_move rfl rfl) ?_
        refine SW.q rfl (.inl rfl) rfl (by decide) (yq_loadS rfl Try.underlying35 sz35_Src rfl (by first | exact Sees.root (by assumption) | exact Sees.own (by repeat (first | exact List.mem_cons_self | exact List.mem_append_left _ (by assumption) | apply List.mem_cons_of_mem | apply List.mem_append_right)) | exact Sees.root (hR _ (by omega)) | exact Sees.own (RowsIn.mem (by repeat (first | exact RowsIn.here | exact RowsIn.last | apply RowsIn.there | apply RowsIn.thereS)) _ (by omega)) | exact Sees.own (WRowsIn.mem (by repeat (first | exact WRowsIn.here | exact WRowsIn.last | apply WRowsIn.there | apply WRowsIn.thereS)) _ (by omega))) rfl rfl rfl) ?_
        refine SW.r rfl (.inl rfl) rfl (by decide) (yr_move rfl rfl) ?_
        refine SW.r rfl (.inl rfl) rfl (by decide) (yr_move rfl rfl) ?_
        refine SW.r rfl (.inl rfl) rfl (by decide) (yr_move rfl rfl) ?_
        refine SW.r rfl (.inl rfl) rfl (by decide) (yr_addN (z + 1) rfl rfl rfl (by omega) (by omega)) ?_
        refine SW.q rfl (.inl rfl) rfl (by decide) (yq_callf rfl known70_Src (.cons rfl (.cons rfl (.cons rfl (.cons rfl .nil)))) (fun w hw => (c_at (x := x) (y := y) (z := z + 1) (by first | exact Sees.root (by assumption) w hw | exact Sees.own (by repeat (first | exact List.mem_cons_self | exact List.mem_append_left _ (by assumption) | apply List.mem_cons_of_mem | apply List.mem_append_right)) w hw) hN hbd (by omega) (by omega) (by omega)))) ?_
        refine SW.r rfl (.inl rfl) rfl (by decide) (yr_field rfl Try.underlying32 rfl rfl fb22_Src rfl rfl rfl) ?_
        refine SW.q rfl (.inl rfl) rfl (by decide) (yq_loadS rfl Try.underlying35 sz35_Src rfl (by first | exact Sees.root (by assumption) | exact Sees.own (by repeat (first | exact List.mem_cons_self | exact List.mem_append_left _ (by assumption) | apply List.mem_cons_of_mem | apply List.mem_append_right)) | exact Sees.root (hR _ (by omega)) | exact Sees.own (RowsIn.mem (by repeat (first | exact RowsIn.here | exact RowsIn.last | apply RowsIn.there | apply RowsIn.thereS)) _ (by omega)) | exact Sees.own (WRowsIn.mem (by repeat (first | exact WRowsIn.here | exact WRowsIn.last | apply WRowsIn.there | apply WRowsIn.thereS)) _ (by omega))) rfl rfl rfl) ?_
        refine SW.r rfl (.inl rfl) rfl (by decide) (yr_move rfl rfl) ?_
        refine SW.r rfl (.inl rfl) rfl (by decide) (yr_move rfl rfl) ?_
        refine SW.r rfl (.inl rfl) rfl (by decide) (yr_move rfl rfl) ?_
        refine SW.r rfl (.inl rfl) rfl (by decide) (yr_subN (z - 1) rfl rfl rfl (by omega) (by omega)) ?_
        refine SW.q rfl (.inl rfl) rfl (by decide) (yq_callf rfl known70_Src (.cons rfl (.cons rfl (.cons rfl (.cons rfl .nil)))) (fun w hw => (c_at (x := x) (y := y) (z := z - 1) (by first | exact Sees.root (by assumption) w hw | exact Sees.own (by repeat (first | exact List.mem_cons_self | exact List.mem_append_left _ (by assumption) | apply List.mem_cons_of_mem | apply List.mem_append_right)) w hw) hN hbd (by omega) (by omega) (by omega)))) ?_
        refine SW.r rfl (.inl rfl) rfl (by decide) (yr_field rfl Try.underlying32 rfl rfl fb22_Src rfl rfl rfl) ?_
        refine SW.r rfl (.inl rfl) rfl (by decide) (yr_float rfl (.inr (.inl rfl)) rfl rfl) ?_
        refine SW.q rfl (.inl rfl) rfl (by decide) (yq_load rfl fb22_Src rfl (by first | exact Sees.root (by assumption) | exact Sees.own (by repeat (first | exact List.mem_cons_self | exact List.mem_append_left _ (by assumption) | apply List.mem_cons_of_mem | apply List.mem_append_right)) | exact Sees.root (hR _ (by omega)) | exact Sees.own (RowsIn.mem (by repeat (first | exact RowsIn.here | exact RowsIn.last | apply RowsIn.there | apply RowsIn.thereS)) _ (by omega)) | exact Sees.own (WRowsIn.mem (by repeat (first | exact WRowsIn.here | exact WRowsIn.last | apply WRowsIn.there | apply WRowsIn.thereS)) _ (by omega))) rfl) ?_
        refine SW.r rfl (.inl rfl) rfl (by decide) (yr_float rfl (.inr (.inr (.inr rfl))) rfl rfl) ?_
        refine SW.r rfl (.inl rfl) rfl (by decide) (yr_float rfl (.inl rfl) rfl rfl) ?_
        refine SW.r rfl (.inl rfl) rfl (by decide) (yr_assign rfl rfl) ?_
        refine SW.done ?_
        refine VE.then_wp ?_
        refine V.region ?_
        refine VL.q (.inl rfl) rfl (by decide) (yq_load rfl fb29_Src rfl (by first | exact Sees.root (by assumption) | exact Sees.own (by repeat (first | exact List.mem_cons_self | exact List.mem_append_left _ (by assumption) | apply List.mem_cons_of_mem | apply List.mem_append_right)) | exact Sees.root (hR _ (by omega)) | exact Sees.own (RowsIn.mem (by repeat (first | exact RowsIn.here | exact RowsIn.last | apply RowsIn.there | apply RowsIn.thereS)) _ (by omega)) | exact Sees.own (WRowsIn.mem (by repeat (first | exact WRowsIn.here | exact WRowsIn.last | apply WRowsIn.there | apply WRowsIn.thereS)) _ (by omega))) rfl) ?_
        refine VL.r (.inl rfl) rfl (by decide) (yr_move rfl rfl) ?_
        refine VL.new1 (.inl rfl) rfl (by decide) (yn_lit rfl Try.underlying29 elt22_Src rfl (by decide) (.cons rfl .nil) (by first | (simp; done) | (simp [cn, cn1, cn0]; done)) rfl rfl rfl) ?_
        intro b91
        refine VL.c (.inl rfl) rfl (by decide) (yc_appendz 1 rfl rfl Try.underlying29 elt22_Src rfl rfl (by repeat (first | exact UpdF.here | apply UpdF.there | apply UpdF.thereS)) (by first | exact Sees.root (by assumption) | exact Sees.own (by repeat (first | exact List.mem_cons_self | exact List.mem_append_left _ (by assumption) | apply List.mem_cons_of_mem | apply List.mem_append_right)) | exact Sees.root (hR _ (by omega)) | exact Sees.own (RowsIn.mem (by repeat (first | exact RowsIn.here | exact RowsIn.last | apply RowsIn.there | apply RowsIn.thereS)) _ (by omega)) | exact Sees.own (WRowsIn.mem (by repeat (first | exact WRowsIn.here | exact WRowsIn.last | apply WRowsIn.there | apply WRowsIn.thereS)) _ (by omega))) rfl (by rw [fl_length]; omega) rfl (by first | rfl | exact fl_scal _) (by first | rfl | exact fl_scal _) (by omega) (by omega)) ?_
        rintro ⟨a92, c92⟩
        refine VL.s (.inl rfl) rfl (yc_store rfl sz29_Src rfl rfl (by repeat (first | exact UpdF.here | apply UpdF.there | apply UpdF.thereS)) (.inl ⟨rfl, rfl⟩) rfl (by first | exact Nat.le_of_ble_eq_true rfl | simp) (by decide) rfl) ?_
        rintro ⟨⟩
        refine VL.nil ?_
        refine VE.fall ?_
        refine ret0 rfl (fun w1 hw => ?_)
        first
          | (have h8 := hw.sub (List.sublist_cons_self _ _)
             refine ⟨(a92, c92), rfl, ?_⟩
             rw [srcU_in hx hy ⟨by omega, by omega, by omega, by omega, by omega, by omega⟩, List.length_append, ← fl_snoc]
             exact h8)
          | exact ⟨(ar, cr), rfl, by rw [srcU_out hx hy (by omega)]; exact hw⟩

theorem c_implSrc {w : World} {f1 f2 f3 st : Nat} {wi hi de : Int} {a : Option Addr} {c : Nat} {vs : List V3} (hA : Cl w a (vl vs)) : New Try.prog 17 [.agg #[.float .f32 f1, .float .f32 f2, .float .f32 f3, .float .f32 st, .int .i64 wi, .int .i64 hi, .int .i64 de, .slice a vs.length c]] w (fun p : Option Addr × Nat => .tuple #[.slice p.1 (srcD (f1, f2, f3) st wi hi de vs).length p.2, .bool (srcOk (f1, f2, f3) st wi hi de vs)]) (fun p => [⟨p.1, fl (srcD (f1, f2, f3) st wi hi de vs), p.2 * 1, 22⟩]) := by
  refine New.enter Try.func17 rfl Try.ntmps17 (Nat.le_of_ble_eq_true rfl) ?_
  refine V.seq ?_
  refine V.region ?_
  refine VL.new1 (.inl rfl) rfl (by decide) (yn_box rfl rfl (.inr ⟨rfl, rfl⟩)) ?_
  intro b1
  refine VL.r (.inl rfl) rfl (by decide) (yr_assign (u := .slice none 0 0) rfl rfl) ?_
  refine VL.r (.inl rfl) rfl (by decide) (yr_assign (u := .bool false) rfl rfl) ?_
  refine VL.nil ?_
  refine VE.then_wp ?_
  refine V.seq ?_
  refine V.seq ?_
  refine V.region ?_
  refine VL.q (.inl rfl) rfl (by decide) (yq_loadS rfl Try.underlying35 sz35_Src rfl (by first | exact Sees.root (by assumption) | exact Sees.own (by repeat (first | exact List.mem_cons_self | exact List.mem_append_left _ (by assumption) | apply List.mem_cons_of_mem | apply List.mem_append_right)) | exact Sees.root (hR _ (by omega)) | exact Sees.own (RowsIn.mem (by repeat (first | exact RowsIn.here | exact RowsIn.last | apply RowsIn.there | apply RowsIn.thereS)) _ (by omega)) | exact Sees.own (WRowsIn.mem (by repeat (first | exact WRowsIn.here | exact WRowsIn.last | apply WRowsIn.there | apply WRowsIn.thereS)) _ (by omega))) rfl rfl rfl) ?_
  refine VL.q (.inl rfl) rfl (by decide) (yq_callf rfl known66_Src (.cons rfl .nil) (fun w hw => c_implMesh)) ?_
  refine VL.r (.inl rfl) rfl (by decide) (yr_not rfl rfl) ?_
  refine VL.nil ?_
  refine VE.then_wp ?_
  refine V.cond rfl (fun h1 => ?_) (fun h1 => ?_)
  · skip
    replace h1 := bnot_t h1
    refine V.seq ?_
    refine V.region ?_
    refine VL.r (.inl rfl) rfl (by decide) (yr_assign (u := .slice none 0 0) rfl rfl) ?_
    refine VL.r (.inl rfl) rfl (by decide) (yr_assign (u := .bool false) rfl rfl) ?_
    refine VL.nil ?_
    refine VE.then_wp ?_
    refine V.ret ?_
    refine VE.then_ret ?_
    refine ret2 rfl rfl rfl (by nofun) (by nofun) (fun w1 hw => ?_)
    first
      | (have hs : srcOk (f1, f2, f3) st (W : Int) (H : Int) (D : Int) vs = true := srcOk_yes hok (by rw [he]; assumption)
         rw [srcD_yes hs, hs, he]
         exact ⟨p15, rfl, (hw.pick (by apply Pick.one; repeat (first | exact Rem.here | apply Rem.there))).out1⟩)
      | ((have hs : srcOk (f1, f2, f3) st (W : Int) (H : Int) (D : Int) vs = false := by first | exact srcOk_no1 (by assumption) | exact srcOk_no2 (by rw [he]; assumption)); (exact ⟨(none, 0), by rw [srcD_no hs, hs]; rfl, hw.below, by rw [srcD_no hs]; simp [fl, Ent.at], List.pairwise_singleton _ _⟩))
      | ((have hs : srcOk (f1, f2, f3) st wi hi de vs = false := by first | exact srcOk_no1 (by assumption) | exact srcOk_no2 (by rw [he]; assumption)); (exact ⟨(none, 0), by rw [srcD_no hs, hs]; rfl, hw.below, by rw [srcD_no hs]; simp [fl, Ent.at], List.pairwise_singleton _ _⟩))
  · skip
    replace h1 := bnot_f h1
    have hok := h1
    obtain ⟨W, H, D, rfl, rfl, rfl, hge, hle, hbd, hN⟩ := mesh_open hok
    have he : srcL st (W : Int) (H : Int) (D : Int) vs = srcU vs W H D (srcTw st) (W * H * D) := rfl
    have hl8 := srcU_length (vs := vs) (W := W) (H := H) (D := D) (tw := srcTw st) (W * H * D)
    refine V.skip ?_
    refine VE.then_wp ?_
    refine V.seq ?_
    refine V.region ?_
    refine VL.new1 (.inl rfl) rfl (by decide) (yn_lit rfl Try.underlying29 elt22_Src rfl (by decide) .nil (by first | (simp; done) | (simp [cn, cn1, cn0]; done)) rfl rfl rfl) ?_
    intro b9
    refine VL.new1 (.inl rfl) rfl (by decide) (yn_alloc rfl zero29_Src rfl) ?_
    intro b4
    refine VL.s (.inl rfl) rfl (yc_store rfl sz29_Src rfl rfl (by repeat (first | exact UpdF.here | apply UpdF.there | apply UpdF.thereS)) (.inl ⟨rfl, rfl⟩) rfl (by first | exact Nat.le_of_ble_eq_true rfl | simp) (by decide) rfl) ?_
    rintro ⟨⟩
    refine VL.nil ?_
    refine VE.then_wp ?_
    refine V.seq ?_
    refine V.region ?_
    refine VL.r (.inl rfl) rfl (by decide) (yr_fieldAddr rfl Try.underlying35 rfl rfl sz22_Src (by decide) rfl) ?_
    refine VL.q (.inl rfl) rfl (by decide) (yq_load rfl fb22_Src rfl (by first | exact Sees.root (by assumption) | exact Sees.own (by repeat (first | exact List.mem_cons_self | exact List.mem_append_left _ (by assumption) | apply List.mem_cons_of_mem | apply List.mem_append_right)) | exact Sees.root (hR _ (by omega)) | exact Sees.own (RowsIn.mem (by repeat (first | exact RowsIn.here | exact RowsIn.last | apply RowsIn.there | apply RowsIn.thereS)) _ (by omega)) | exact Sees.own (WRowsIn.mem (by repeat (first | exact WRowsIn.here | exact WRowsIn.last | apply WRowsIn.there | apply WRowsIn.thereS)) _ (by omega))) rfl) ?_
    refine VL.r (.inl rfl) rfl (by decide) (yr_float (a := 1073741824) rfl (.inr (.inr (.inl rfl))) rfl rfl) ?_
    refine VL.new1 (.inl rfl) rfl (by decide) (yn_alloc rfl zero22_Src rfl) ?_
    intro b5
    refine VL.s (.inl rfl) rfl (yc_store rfl sz22_Src rfl rfl (by repeat (first | exact UpdF.here | apply UpdF.there | apply UpdF.thereS)) (.inl ⟨rfl, rfl⟩) rfl (by first | exact Nat.le_of_ble_eq_true rfl | simp) (by decide) rfl) ?_
    rintro ⟨⟩
    refine VL.nil ?_
    refine VE.then_wp ?_
    refine V.seq ?_
    refine V.region ?_
    refine VL.q (.inl rfl) rfl (by decide) (yq_loadS rfl Try.underlying35 sz35_Src rfl (by first | exact Sees.root (by assumption) | exact Sees.own (by repeat (first | exact List.mem_cons_self | exact List.mem_append_left _ (by assumption) | apply List.mem_cons_of_mem | apply List.mem_append_right)) | exact Sees.root (hR _ (by omega)) | exact Sees.own (RowsIn.mem (by repeat (first | exact RowsIn.here | exact RowsIn.last | apply RowsIn.there | apply RowsIn.thereS)) _ (by omega)) | exact Sees.own (WRowsIn.mem (by repeat (first | exact WRowsIn.here | exact WRowsIn.last | apply WRowsIn.there | apply WRowsIn.thereS)) _ (by omega))) rfl rfl rfl) ?_
    refine VL.r (.inl rfl) rfl (by decide) (yr_func3 rfl rfl rfl rfl) ?_
    refine VL.c (.inl rfl) rfl (by decide) (yc_callf rfl known67_Src (.cons rfl (.cons rfl .nil)) (by apply Pick.e4; all_goals (repeat (first | exact Rem.here | apply Rem.there))) (c_each (X := Option Addr × Nat) (S := (fun k (p : Option Addr × Nat) => [⟨some ⟨b1, 0, none⟩, [.float .f32 f1, .float .f32 f2, .float .f32 f3, .float .f32 st, .int .i64 (W : Int), .int .i64 (H : Int), .int .i64 (D : Int), .slice a vs.length c], 8, 35⟩, ⟨some ⟨b5, 0, none⟩, [.float .f32 (srcTw st)], 1, 22⟩, ⟨some ⟨b4, 0, none⟩, [.slice p.1 (srcU vs W H D (srcTw st) (k)).length p.2], 1, 29⟩, ⟨p.1, fl (srcU vs W H D (srcTw st) (k)), p.2 * 1, 22⟩])) (x0 := (some ⟨b9, 0, none⟩, 0)) hle known68_Src (fun x y z s hx hy hz => c_srcNode hA hN hbd hle hx hy hz))) ?_
    intro p15
    refine VL.nil ?_
    refine VE.then_wp ?_
    refine V.seq ?_
    refine V.seq ?_
    refine V.region ?_
    refine VL.q (.inl rfl) rfl (by decide) (yq_load rfl fb29_Src rfl (by first | exact Sees.root (by assumption) | exact Sees.own (by repeat (first | exact List.mem_cons_self | exact List.mem_append_left _ (by assumption) | apply List.mem_cons_of_mem | apply List.mem_append_right)) | exact Sees.root (hR _ (by omega)) | exact Sees.own (RowsIn.mem (by repeat (first | exact RowsIn.here | exact RowsIn.last | apply RowsIn.there | apply RowsIn.thereS)) _ (by omega)) | exact Sees.own (WRowsIn.mem (by repeat (first | exact WRowsIn.here | exact WRowsIn.last | apply WRowsIn.there | apply WRowsIn.thereS)) _ (by omega))) rfl) ?_
    refine VL.q (.inl rfl) rfl (by decide) (yq_callf rfl known71_Src (.cons rfl .nil) (fun w hw => (c_areFinite (by first | exact Sees.root (by assumption) w hw | exact Sees.own (by repeat (first | exact List.mem_cons_self | exact List.mem_append_left _ (by assumption) | apply List.mem_cons_of_mem | apply List.mem_append_right)) w hw) (by omega)))) ?_
    refine VL.r (.inl rfl) rfl (by decide) (yr_not rfl rfl) ?_
    refine VL.nil ?_
    refine VE.then_wp ?_
    refine V.cond rfl (fun h2 => ?_) (fun h2 => ?_)
    · skip
      replace h2 := bnot_t h2
      refine V.seq ?_
      refine V.region ?_
      refine VL.r (.inl rfl) rfl (by decide) (yr_assign (u := .slice none 0 0) rfl rfl) ?_
      refine VL.r (.inl rfl) rfl (by decide) (yr_assign (u := .bool false) rfl rfl) ?_
      refine VL.nil ?_
      refine VE.then_wp ?_
      refine V.ret ?_
      refine VE.then_ret ?_
      refine ret2 rfl rfl rfl (by nofun) (by nofun) (fun w1 hw => ?_)
      first
        | (have hs : srcOk (f1, f2, f3) st (W : Int) (H : Int) (D : Int) vs = true := srcOk_yes hok (by rw [he]; assumption)
           rw [srcD_yes hs, hs, he]
           exact ⟨p15, rfl, (hw.pick (by apply Pick.one; repeat (first | exact Rem.here | apply Rem.there))).out1⟩)
        | ((have hs : srcOk (f1, f2, f3) st (W : Int) (H : Int) (D : Int) vs = false := by first | exact srcOk_no1 (by assumption) | exact srcOk_no2 (by rw [he]; assumption)); (exact ⟨(none, 0), by rw [srcD_no hs, hs]; rfl, hw.below, by rw [srcD_no hs]; simp [fl, Ent.at], List.pairwise_singleton _ _⟩))
        | ((have hs : srcOk (f1, f2, f3) st wi hi de vs = false := by first | exact srcOk_no1 (by assumption) | exact srcOk_no2 (by rw [he]; assumption)); (exact ⟨(none, 0), by rw [srcD_no hs, hs]; rfl, hw.below, by rw [srcD_no hs]; simp [fl, Ent.at], List.pairwise_singleton _ _⟩))
    · skip
      replace h2 := bnot_f h2
      refine V.skip ?_
      refine VE.then_wp ?_
      refine V.seq ?_
      refine V.region ?_
      refine VL.q (.inl rfl) rfl (by decide) (yq_load rfl fb29_Src rfl (by first | exact Sees.root (by assumption) | exact Sees.own (by repeat (first | exact List.mem_cons_self | exact List.mem_append_left _ (by assumption) | apply List.mem_cons_of_mem | apply List.mem_append_right)) | exact Sees.root (hR _ (by omega)) | exact Sees.own (RowsIn.mem (by repeat (first | exact RowsIn.here | exact RowsIn.last | apply RowsIn.there | apply RowsIn.thereS)) _ (by omega)) | exact Sees.own (WRowsIn.mem (by repeat (first | exact WRowsIn.here | exact WRowsIn.last | apply WRowsIn.there | apply WRowsIn.thereS)) _ (by omega))) rfl) ?_
      refine VL.r (.inl rfl) rfl (by decide) (yr_assign rfl rfl) ?_
      refine VL.r (.inl rfl) rfl (by decide) (yr_assign (u := .bool true) rfl rfl) ?_
      refine VL.nil ?_
      refine VE.then_wp ?_
      refine V.ret ?_
      refine ret2 rfl rfl rfl (by nofun) (by nofun) (fun w1 hw => ?_)
      first
        | (have hs : srcOk (f1, f2, f3) st (W : Int) (H : Int) (D : Int) vs = true := srcOk_yes hok (by rw [he]; assumption)
           rw [srcD_yes hs, hs, he]
           exact ⟨p15, rfl, (hw.pick (by apply Pick.one; repeat (first | exact Rem.here | apply Rem.there))).out1⟩)
        | ((have hs : srcOk (f1, f2, f3) st (W : Int) (H : Int) (D : Int) vs = false := by first | exact srcOk_no1 (by assumption) | exact srcOk_no2 (by rw [he]; assumption)); (exact ⟨(none, 0), by rw [srcD_no hs, hs]; rfl, hw.below, by rw [srcD_no hs]; simp [fl, Ent.at], List.pairwise_singleton _ _⟩))
        | ((have hs : srcOk (f1, f2, f3) st wi hi de vs = false := by first | exact srcOk_no1 (by assumption) | exact srcOk_no2 (by rw [he]; assumption)); (exact ⟨(none, 0), by rw [srcD_no hs, hs]; rfl, hw.below, by rw [srcD_no hs]; simp [fl, Ent.at], List.pairwise_singleton _ _⟩))

theorem c_specSrc {w : World} {f1 f2 f3 st : Nat} {wi hi de : Int} {a : Option Addr} {c : Nat} {vs : List V3} (hA : Cl w a (vl vs)) : New Try.prog 15 [.agg #[.float .f32 f1, .float .f32 f2, .float .f32 f3, .float .f32 st, .int .i64 wi, .int .i64 hi, .int .i64 de, .slice a vs.length c]] w (fun p : Option Addr × Nat => .tuple #[.slice p.1 (srcD (f1, f2, f3) st wi hi de vs).length p.2, .bool (srcOk (f1, f2, f3) st wi hi de vs)]) (fun p => [⟨p.1, fl (srcD (f1, f2, f3) st wi hi de vs), p.2 * 1, 22⟩]) := by
  refine New.enter Try.func15 rfl Try.ntmps15 (Nat.le_of_ble_eq_true rfl) ?_
  refine V.seq ?_
  refine V.region ?_
  refine VL.new1 (.inl rfl) rfl (by decide) (yn_box rfl rfl (.inr ⟨rfl, rfl⟩)) ?_
  intro b1
  refine VL.r (.inl rfl) rfl (by decide) (yr_assign (u := .slice none 0 0) rfl rfl) ?_
  refine VL.r (.inl rfl) rfl (by decide) (yr_assign (u := .bool false) rfl rfl) ?_
  refine VL.nil ?_
  refine VE.then_wp ?_
  refine V.seq ?_
  refine V.seq ?_
  refine V.region ?_
  refine VL.q (.inl rfl) rfl (by decide) (yq_callf rfl known62_Src (.cons rfl .nil) (fun w hw => (c_l06Is (by first | exact Sees.root (by assumption) w hw | exact Sees.own (by repeat (first | exact List.mem_cons_self | exact List.mem_append_left _ (by assumption) | apply List.mem_cons_of_mem | apply List.mem_append_right)) w hw)))) ?_
  refine VL.r (.inl rfl) rfl (by decide) (yr_not rfl rfl) ?_
  refine VL.nil ?_
  refine VE.then_wp ?_
  refine V.cond rfl (fun h1 => ?_) (fun h1 => ?_)
  · skip
    replace h1 := bnot_t h1
    refine V.seq ?_
    refine V.region ?_
    refine VL.r (.inl rfl) rfl (by decide) (yr_assign (u := .slice none 0 0) rfl rfl) ?_
    refine VL.r (.inl rfl) rfl (by decide) (yr_assign (u := .bool false) rfl rfl) ?_
    refine VL.nil ?_
    refine VE.then_wp ?_
    refine V.ret ?_
    refine VE.then_ret ?_
    refine ret2 rfl rfl rfl (by nofun) (by nofun) (fun w1 hw => ?_)
    first
      | (have hzn : (srcU vs W H D (srcTw st) (W * H * D)) = (srcU vs W H D (srcTw st) (nd W H 0 0 z)) := srcU_zn hge.1 hge.2.1 (by omega) (by omega)
         have hs : srcOk (f1, f2, f3) st (W : Int) (H : Int) (D : Int) vs = true := srcOk_yes hok (by rw [he, hzn]; exact haz)
         rw [srcD_yes hs, hs, he, hzn]
         exact ⟨(ar, cr), rfl, hw.outs ((List.nil_sublist _).cons_cons _)⟩)
      | (have hs : srcOk (f1, f2, f3) st (W : Int) (H : Int) (D : Int) vs = false := srcOk_no2 (by
           rw [he, ← Bool.not_eq_true, List.all_eq_true]
           intro h9
           have h8 : fin (srcAt vs W H (srcTw st) x y z) = true := h9 _ (srcU_mono (a := nd W H x y z + 1) (by omega) (by rw [srcU_in (by omega) (by omega) ⟨by omega, by omega, by omega, by omega, by omega, by omega⟩]; exact List.mem_append_right _ List.mem_cons_self))
           have h7 : fin (srcAt vs W H (srcTw st) x y z) = false := by assumption
           rw [h8] at h7; cases h7)
         exact ⟨(none, 0), by rw [srcD_no hs, hs]; rfl, hw.below, by rw [srcD_no hs]; simp [fl, Ent.at], List.pairwise_singleton _ _⟩)
      | ((have hs : srcOk (f1, f2, f3) st wi hi de vs = false := by first | exact srcOk_no1 (by assumption) | exact srcOk_no2 (by rw [he]; assumption)); (exact ⟨(none, 0), by rw [srcD_no hs, hs]; rfl, hw.below, by rw [srcD_no hs]; simp [fl, Ent.at], List.pairwise_singleton _ _⟩))
  · skip
    replace h1 := bnot_f h1
    have hok := h1
    obtain ⟨W, H, D, rfl, rfl, rfl, hge, hle, hbd, hN⟩ := mesh_open hok
    have he : srcL st (W : Int) (H : Int) (D : Int) vs = srcU vs W H D (srcTw st) (W * H * D) := rfl
    have hl8 := srcU_length (vs := vs) (W := W) (H := H) (D := D) (tw := srcTw st) (W * H * D)
    refine V.skip ?_
    refine VE.then_wp ?_
    refine V.seq ?_
    refine V.region ?_
    refine VL.r (.inl rfl) rfl (by decide) (yr_fieldAddr rfl Try.underlying35 rfl rfl sz22_Src (by decide) rfl) ?_
    refine VL.q (.inl rfl) rfl (by decide) (yq_load rfl fb22_Src rfl (by first | exact Sees.root (by assumption) | exact Sees.own (by repeat (first | exact List.mem_cons_self | exact List.mem_append_left _ (by assumption) | apply List.mem_cons_of_mem | apply List.mem_append_right)) | exact Sees.root (hR _ (by omega)) | exact Sees.own (RowsIn.mem (by repeat (first | exact RowsIn.here | exact RowsIn.last | apply RowsIn.there | apply RowsIn.thereS)) _ (by omega)) | exact Sees.own (WRowsIn.mem (by repeat (first | exact WRowsIn.here | exact WRowsIn.last | apply WRowsIn.there | apply WRowsIn.thereS)) _ (by omega))) rfl) ?_
    refine VL.r (.inl rfl) rfl (by decide) (yr_float (a := 1073741824) rfl (.inr (.inr (.inl rfl))) rfl rfl) ?_
    refine VL.r (.inl rfl) rfl (by decide) (yr_assign rfl rfl) ?_
    refine VL.nil ?_
    refine VE.then_wp ?_
    refine V.seq ?_
    refine V.region ?_
    refine VL.new1 (.inl rfl) rfl (by decide) (yn_lit rfl Try.underlying29 elt22_Src rfl (by decide) .nil (by first | (simp; done) | (simp [cn, cn1, cn0]; done)) rfl rfl rfl) ?_
    intro b15
    refine VL.r (.inl rfl) rfl (by decide) (yr_assign rfl rfl) ?_
    refine VL.nil ?_
    refine VE.then_wp ?_
    refine V.seq ?_
    refine V.seq ?_
    refine V.region ?_
    refine VL.r (.inl rfl) rfl (by decide) (yr_assign (u := .int .i64 1) rfl rfl) ?_
    refine VL.nil ?_
    refine VE.then_wp ?_
    refine V.block ?_
    refine V.loopc (G := Nat × (Option Addr) × Nat) [(1, _), (4, _)] (fun ⟨z, ar, cr⟩ => 1 ≤ z ∧ z ≤ D ∧ (srcU vs W H D (srcTw st) (nd W H 0 0 z)).all fin = true) (fun ⟨z, ar, cr⟩ => [⟨ar, fl (srcU vs W H D (srcTw st) (nd W H 0 0 z)), cr * 1, 22⟩, ⟨some ⟨b1, 0, none⟩, [.float .f32 f1, .float .f32 f2, .float .f32 f3, .float .f32 st, .int .i64 (W : Int), .int .i64 (H : Int), .int .i64 (D : Int), .slice a vs.length c], 8, 35⟩]) (fun ⟨z, ar, cr⟩ => [(5, .slice ar (srcU vs W H D (srcTw st) (nd W H 0 0 z)).length cr), (6, .int .i64 (z : Int))]) (fun ⟨z, ar, cr⟩ => D - z) (1, some ⟨b15, 0, none⟩, 0) (.cons rfl (.cons rfl .nil)) (.cons (congrArg (fun n => some (Value.slice _ n _)) (by rw [srcU_z0]; rfl)) (.cons rfl .nil)) ?_ ?_ ?_
    · exact (fun w hw => by dsimp only; rw [srcU_z0]; exact hw)
    · exact (by exact ⟨Nat.le_refl _, hge.2.2, by rw [srcU_z0]; rfl⟩)
    rintro ⟨z, ar, cr⟩ ⟨hz1, hz2, haz⟩
    show V _ _ _ [⟨ar, fl (srcU vs W H D (srcTw st) (nd W H 0 0 z)), cr * 1, 22⟩, ⟨some ⟨b1, 0, none⟩, [.float .f32 f1, .float .f32 f2, .float .f32 f3, .float .f32 st, .int .i64 (W : Int), .int .i64 (H : Int), .int .i64 (D : Int), .slice a vs.length c], 8, 35⟩] ([(5, .slice ar (srcU vs W H D (srcTw st) (nd W H 0 0 z)).length cr), (6, .int .i64 (z : Int))] ++ [(1, _), (4, _)]) _ _
    refine V.seq ?_
    refine V.seq ?_
    refine V.region ?_
    refine VL.r (.inl rfl) rfl (by decide) (yr_move rfl rfl) ?_
    refine VL.r (.inl rfl) rfl (by decide) (yr_int rfl rfl rfl (.inl ⟨rfl, wrap_in (by omega)⟩)) ?_
    refine VL.r (.inl rfl) rfl (by decide) (yr_fieldAddr rfl Try.underlying35 rfl rfl sz2_Src (by decide) rfl) ?_
    refine VL.q (.inl rfl) rfl (by decide) (yq_load rfl fb2_Src rfl (by first | exact Sees.root (by assumption) | exact Sees.own (by repeat (first | exact List.mem_cons_self | exact List.mem_append_left _ (by assumption) | apply List.mem_cons_of_mem | apply List.mem_append_right)) | exact Sees.root (hR _ (by omega)) | exact Sees.own (RowsIn.mem (by repeat (first | exact RowsIn.here | exact RowsIn.last | apply RowsIn.there | apply RowsIn.thereS)) _ (by omega)) | exact Sees.own (WRowsIn.mem (by repeat (first | exact WRowsIn.here | exact WRowsIn.last | apply WRowsIn.there | apply WRowsIn.thereS)) _ (by omega))) rfl) ?_
    refine VL.r (.inl rfl) rfl (by decide) (yr_icmp rfl (.inr (.inr (.inl rfl))) rfl rfl) ?_
    refine VL.nil ?_
    refine VE.then_wp ?_
    refine V.cond rfl (fun h2 => ?_) (fun h2 => ?_)
    · skip
      replace h2 := ic_lss h2
      refine V.skip ?_
      refine VE.then_wp ?_
      refine V.seq ?_
      refine V.block ?_
      refine V.seq ?_
      refine V.region ?_
      refine VL.r (.inl rfl) rfl (by decide) (yr_assign (u := .int .i64 1) rfl rfl) ?_
      refine VL.nil ?_
      refine VE.then_wp ?_
      refine V.block ?_
      refine V.loopc (G := Nat × (Option Addr) × Nat) [(1, _), (4, _), (6, _)] (fun ⟨y, ar1, cr1⟩ => 1 ≤ y ∧ y ≤ H ∧ (srcU vs W H D (srcTw st) (nd W H 0 y z)).all fin = true) (fun ⟨y, ar1, cr1⟩ => [⟨ar1, fl (srcU vs W H D (srcTw st) (nd W H 0 y z)), cr1 * 1, 22⟩, ⟨some ⟨b1, 0, none⟩, [.float .f32 f1, .float .f32 f2, .float .f32 f3, .float .f32 st, .int .i64 (W : Int), .int .i64 (H : Int), .int .i64 (D : Int), .slice a vs.length c], 8, 35⟩]) (fun ⟨y, ar1, cr1⟩ => [(5, .slice ar1 (srcU vs W H D (srcTw st) (nd W H 0 y z)).length cr1), (7, .int .i64 (y : Int))]) (fun ⟨y, ar1, cr1⟩ => H - y) (1, ar, cr) (.cons rfl (.cons rfl (.cons rfl .nil))) (.cons (congrArg (fun n => some (Value.slice _ n _)) (by rw [srcU_y0 hge.2.1])) (.cons rfl .nil)) ?_ ?_ ?_
      · exact (fun w hw => by dsimp only; rw [srcU_y0 hge.2.1]; exact hw)
      · exact (by exact ⟨Nat.le_refl _, hge.2.1, by rw [srcU_y0 hge.2.1]; exact haz⟩)
      rintro ⟨y, ar1, cr1⟩ ⟨hy1, hy2, hay⟩
      show V _ _ _ [⟨ar1, fl (srcU vs W H D (srcTw st) (nd W H 0 y z)), cr1 * 1, 22⟩, ⟨some ⟨b1, 0, none⟩, [.float .f32 f1, .float .f32 f2, .float .f32 f3, .float .f32 st, .int .i64 (W : Int), .int .i64 (H : Int), .int .i64 (D : Int), .slice a vs.length c], 8, 35⟩] ([(5, .slice ar1 (srcU vs W H D (srcTw st) (nd W H 0 y z)).length cr1), (7, .int .i64 (y : Int))] ++ [(1, _), (4, _), (6, _)]) _ _
      refine V.seq ?_
      refine V.seq ?_
      refine V.region ?_
      refine VL.r (.inl rfl) rfl (by decide) (yr_move rfl rfl) ?_
      refine VL.r (.inl rfl) rfl (by decide) (yr_int rfl rfl rfl (.inl ⟨rfl, wrap_in (by omega)⟩)) ?_
      refine VL.r (.inl rfl) rfl (by decide) (yr_fieldAddr rfl Try.underlying35 rfl rfl sz2_Src (by decide) rfl) ?_
      refine VL.q (.inl rfl) rfl (by decide) (yq_load rfl fb2_Src rfl (by first | exact Sees.root (by assumption) | exact Sees.own (by repeat (first | exact List.mem_cons_self | exact List.mem_append_left _ (by assumption) | apply List.mem_cons_of_mem | apply List.mem_append_right)) | exact Sees.root (hR _ (by omega)) | exact Sees.own (RowsIn.mem (by repeat (first | exact RowsIn.here | exact RowsIn.last | apply RowsIn.there | apply RowsIn.thereS)) _ (by omega)) | exact Sees.own (WRowsIn.mem (by repeat (first | exact WRowsIn.here | exact WRowsIn.last | apply WRowsIn.there | apply WRowsIn.thereS)) _ (by omega))) rfl) ?_
      refine VL.r (.inl rfl) rfl (by decide) (yr_icmp rfl (.inr (.inr (.inl rfl))) rfl rfl) ?_
      refine VL.nil ?_
      refine VE.then_wp ?_
      refine V.cond rfl (fun h3 => ?_) (fun h3 => ?_)
      · skip
        replace h3 := ic_lss h3
        refine V.skip ?_
        refine VE.then_wp ?_
        refine V.seq ?_
        refine V.block ?_
        refine V.seq ?_
        refine V.region ?_
        refine VL.r (.inl rfl) rfl (by decide) (yr_assign (u := .int .i64 1) rfl rfl) ?_
        refine VL.nil ?_
        refine VE.then_wp ?_
        refine V.block ?_
        refine V.loopc (G := Nat × (Option Addr) × Nat) [(1, _), (4, _), (6, _), (7, _)] (fun ⟨x, ar2, cr2⟩ => 1 ≤ x ∧ x ≤ W ∧ (srcU vs W H D (srcTw st) (nd W H x y z)).all fin = true) (fun ⟨x, ar2, cr2⟩ => [⟨ar2, fl (srcU vs W H D (srcTw st) (nd W H x y z)), cr2 * 1, 22⟩, ⟨some ⟨b1, 0, none⟩, [.float .f32 f1, .float .f32 f2, .float .f32 f3, .float .f32 st, .int .i64 (W : Int), .int .i64 (H : Int), .int .i64 (D : Int), .slice a vs.length c], 8, 35⟩]) (fun ⟨x, ar2, cr2⟩ => [(5, .slice ar2 (srcU vs W H D (srcTw st) (nd W H x y z)).length cr2), (8, .int .i64 (x : Int))]) (fun ⟨x, ar2, cr2⟩ => W - x) (1, ar1, cr1) (.cons rfl (.cons rfl (.cons rfl (.cons rfl .nil)))) (.cons (congrArg (fun n => some (Value.slice _ n _)) (by rw [srcU_x0 hge.1])) (.cons rfl .nil)) ?_ ?_ ?_
        · exact (fun w hw => by dsimp only; rw [srcU_x0 hge.1]; exact hw)
        · exact (by exact ⟨Nat.le_refl _, hge.1, by rw [srcU_x0 hge.1]; exact hay⟩)
        rintro ⟨x, ar2, cr2⟩ ⟨hx1, hx2, hax⟩
        show V _ _ _ [⟨ar2, fl (srcU vs W H D (srcTw st) (nd W H x y z)), cr2 * 1, 22⟩, ⟨some ⟨b1, 0, none⟩, [.float .f32 f1, .float .f32 f2, .float .f32 f3, .float .f32 st, .int .i64 (W : Int), .int .i64 (H : Int), .int .i64 (D : Int), .slice a vs.length c], 8, 35⟩] ([(5, .slice ar2 (srcU vs W H D (srcTw st) (nd W H x y z)).length cr2), (8, .int .i64 (x : Int))] ++ [(1, _), (4, _), (6, _), (7, _)]) _ _
        refine V.seq ?_
        refine V.seq ?_
        refine V.region ?_
        refine VL.r (.inl rfl) rfl (by decide) (yr_move rfl rfl) ?_
        refine VL.r (.inl rfl) rfl (by decide) (yr_int rfl rfl rfl (.inl ⟨rfl, wrap_in (by omega)⟩)) ?_
        refine VL.r (.inl rfl) rfl (by decide) (yr_fieldAddr rfl Try.underlying35 rfl rfl sz2_Src (by decide) rfl) ?_
        refine VL.q (.inl rfl) rfl (by decide) (yq_load rfl fb2_Src rfl (by first | exact Sees.root (by assumption) | exact Sees.own (by repeat (first | exact List.mem_cons_self | exact List.mem_append_left _ (by assumption) | apply List.mem_cons_of_mem | apply List.mem_append_right)) | exact Sees.root (hR _ (by omega)) | exact Sees.own (RowsIn.mem (by repeat (first | exact RowsIn.here | exact RowsIn.last | apply RowsIn.there | apply RowsIn.thereS)) _ (by omega)) | exact Sees.own (WRowsIn.mem (by repeat (first | exact WRowsIn.here | exact WRowsIn.last | apply WRowsIn.there | apply WRowsIn.thereS)) _ (by omega))) rfl) ?_
        refine VL.r (.inl rfl) rfl (by decide) (yr_icmp rfl (.inr (.inr (.inl rfl))) rfl rfl) ?_
        refine VL.nil ?_
        refine VE.then_wp ?_
        refine V.cond rfl (fun h4 => ?_) (fun h4 => ?_)
        · skip
          replace h4 := ic_lss h4
          have hnd := nd_facts (W := W) (H := H) (D := D) (x := x) (y := y) (z := z) (by omega) (by omega) (by omega) hbd
          have hl8 := srcU_length (vs := vs) (W := W) (H := H) (D := D) (tw := srcTw st) (nd W H x y z)
          refine V.skip ?_
          refine VE.then_wp ?_
          refine V.seq ?_
          refine V.block ?_
          refine V.seq ?_
          refine V.region ?_
          refine VL.r (.inl rfl) rfl (by decide) (yr_assign (u := .float .f32 0) rfl rfl) ?_
          refine VL.nil ?_
          refine VE.then_wp ?_
          refine V.seq ?_
          refine V.region ?_
          refine VL.r (.inl rfl) rfl (by decide) (yr_move rfl rfl) ?_
          refine VL.r (.inl rfl) rfl (by decide) (yr_move rfl rfl) ?_
          refine VL.r (.inl rfl) rfl (by decide) (yr_addN (x + 1) rfl rfl rfl (by omega) (by omega)) ?_
          refine VL.r (.inl rfl) rfl (by decide) (yr_move rfl rfl) ?_
          refine VL.r (.inl rfl) rfl (by decide) (yr_move rfl rfl) ?_
          refine VL.q (.inl rfl) rfl (by decide) (yq_callf rfl known63_Src (.cons rfl (.cons rfl (.cons rfl (.cons rfl .nil)))) (fun w hw => (c_l06Value (x := x + 1) (y := y) (z := z) (by first | exact Sees.root (by assumption) w hw | exact Sees.own (by repeat (first | exact List.mem_cons_self | exact List.mem_append_left _ (by assumption) | apply List.mem_cons_of_mem | apply List.mem_append_right)) w hw) (by first | exact Sees.root (by assumption) w hw | exact Sees.own (by repeat (first | exact List.mem_cons_self | exact List.mem_append_left _ (by assumption) | apply List.mem_cons_of_mem | apply List.mem_append_right)) w hw) hN hbd (by omega) (by omega) (by omega)))) ?_
          refine VL.r (.inl rfl) rfl (by decide) (yr_field rfl Try.underlying32 rfl rfl fb22_Src rfl rfl rfl) ?_
          refine VL.r (.inl rfl) rfl (by decide) (yr_move rfl rfl) ?_
          refine VL.r (.inl rfl) rfl (by decide) (yr_subN (x - 1) rfl rfl rfl (by omega) (by omega)) ?_
          refine VL.r (.inl rfl) rfl (by decide) (yr_move rfl rfl) ?_
          refine VL.r (.inl rfl) rfl (by decide) (yr_move rfl rfl) ?_
          refine VL.q (.inl rfl) rfl (by decide) (yq_callf rfl known63_Src (.cons rfl (.cons rfl (.cons rfl (.cons rfl .nil)))) (fun w hw => (c_l06Value (x := x - 1) (y := y) (z := z) (by first | exact Sees.root (by assumption) w hw | exact Sees.own (by repeat (first | exact List.mem_cons_self | exact List.mem_append_left _ (by assumption) | apply List.mem_cons_of_mem | apply List.mem_append_right)) w hw) (by first | exact Sees.root (by assumption) w hw | exact Sees.own (by repeat (first | exact List.mem_cons_self | exact List.mem_append_left _ (by assumption) | apply List.mem_cons_of_mem | apply List.mem_append_right)) w hw) hN hbd (by omega) (by omega) (by omega)))) ?_
          refine VL.r (.inl rfl) rfl (by decide) (yr_field rfl Try.underlying32 rfl rfl fb22_Src rfl rfl rfl) ?_
          refine VL.r (.inl rfl) rfl (by decide) (yr_float rfl (.inr (.inl rfl)) rfl rfl) ?_
          refine VL.r (.inl rfl) rfl (by decide) (yr_move rfl rfl) ?_
          refine VL.r (.inl rfl) rfl (by decide) (yr_float rfl (.inr (.inr (.inr rfl))) rfl rfl) ?_
          refine VL.r (.inl rfl) rfl (by decide) (yr_float rfl (.inl rfl) rfl rfl) ?_
          refine VL.r (.inl rfl) rfl (by decide) (yr_assign rfl rfl) ?_
          refine VL.nil ?_
          refine VE.then_wp ?_
          refine V.seq ?_
          refine V.region ?_
          refine VL.r (.inl rfl) rfl (by decide) (yr_move rfl rfl) ?_
          refine VL.r (.inl rfl) rfl (by decide) (yr_move rfl rfl) ?_
          refine VL.r (.inl rfl) rfl (by decide) (yr_move rfl rfl) ?_
          refine VL.r (.inl rfl) rfl (by decide) (yr_addN (y + 1) rfl rfl rfl (by omega) (by omega)) ?_
          refine VL.r (.inl rfl) rfl (by decide) (yr_move rfl rfl) ?_
          refine VL.q (.inl rfl) rfl (by decide) (yq_callf rfl known63_Src (.cons rfl (.cons rfl (.cons rfl (.cons rfl .nil)))) (fun w hw => (c_l06Value (x := x) (y := y + 1) (z := z) (by first | exact Sees.root (by assumption) w hw | exact Sees.own (by repeat (first | exact List.mem_cons_self | exact List.mem_append_left _ (by assumption) | apply List.mem_cons_of_mem | apply List.mem_append_right)) w hw) (by first | exact Sees.root (by assumption) w hw | exact Sees.own (by repeat (first | exact List.mem_cons_self | exact List.mem_append_left _ (by assumption) | apply List.mem_cons_of_mem | apply List.mem_append_right)) w hw) hN hbd (by omega) (by omega) (by omega)))) ?_
          refine VL.r (.inl rfl) rfl (by decide) (yr_field rfl Try.underlying32 rfl rfl fb22_Src rfl rfl rfl) ?_
          refine VL.r (.inl rfl) rfl (by decide) (yr_move rfl rfl) ?_
          refine VL.r (.inl rfl) rfl (by decide) (yr_move rfl rfl) ?_
          refine VL.r (.inl rfl) rfl (by decide) (yr_subN (y - 1) rfl rfl rfl (by omega) (by omega)) ?_
          refine VL.r (.inl rfl) rfl (by decide) (yr_move rfl rfl) ?_
          refine VL.q (.inl rfl) rfl (by decide) (yq_callf rfl known63_Src (.cons rfl (.cons rfl (.cons rfl (.cons rfl .nil)))) (fun w hw => (c_l06Value (x := x) (y := y - 1) (z := z) (by first | exact Sees.root (by assumption) w hw | exact Sees.own (by repeat (first | exact List.mem_cons_self | exact List.mem_append_left _ (by assumption) | apply List.mem_cons_of_mem | apply List.mem_append_right)) w hw) (by first | exact Sees.root (by assumption) w hw | exact Sees.own (by repeat (first | exact List.mem_cons_self | exact List.mem_append_left _ (by assumption) | apply List.mem_cons_of_mem | apply List.mem_append_right)) w hw) hN hbd (by omega) (by omega) (by omega)))) ?_
          refine VL.r (.inl rfl) rfl (by decide) (yr_field rfl Try.underlying32 rfl rfl fb22_Src rfl rfl rfl) ?_
          refine VL.r (.inl rfl) rfl (by decide) (yr_float rfl (.inr (.inl rfl)) rfl rfl) ?_
          refine VL.r (.inl rfl) rfl (by decide) (yr_move rfl rfl) ?_
          refine VL.r (.inl rfl) rfl (by decide) (yr_float rfl (.inr (.inr (.inr rfl))) rfl rfl) ?_
          refine VL.r (.inl rfl) rfl (by decide) (yr_float rfl (.inl rfl) rfl rfl) ?_
          refine VL.r (.inl rfl) rfl (by decide) (yr_assign rfl rfl) ?_
          refine VL.nil ?_
          refine VE.then_wp ?_
          refine V.seq ?_
          refine V.region ?_
          refine VL.r (.inl rfl) rfl (by decide) (yr_move rfl rfl) ?_
          refine VL.r (.inl rfl) rfl (by decide) (yr_move rfl rfl) ?_
          refine VL.r (.inl rfl) rfl (by decide) (yr_move rfl rfl) ?_
          refine VL.r (.inl rfl) rfl (by decide) (yr_move rfl rfl) ?_
          refine VL.r (.inl rfl) rfl (by decide) (yr_addN (z + 1) rfl rfl rfl (by omega) (by omega)) ?_
          refine VL.q (.inl rfl) rfl (by decide) (yq_callf rfl known63_Src (.cons rfl (.cons rfl (.cons rfl (.cons rfl .nil)))) (fun w hw => (c_l06Value (x := x) (y := y) (z := z + 1) (by first | exact Sees.root (by assumption) w hw | exact Sees.own (by repeat (first | exact List.mem_cons_self | exact List.mem_append_left _ (by assumption) | apply List.mem_cons_of_mem | apply List.mem_append_right)) w hw) (by first | exact Sees.root (by assumption) w hw | exact Sees.own (by repeat (first | exact List.mem_cons_self | exact List.mem_append_left _ (by assumption) | apply List.mem_cons_of_mem | apply List.mem_append_right)) w hw) hN hbd (by omega) (by omega) (by omega)))) ?_
          refine VL.r (.inl rfl) rfl (by decide) (yr_field rfl Try.underlying32 rfl rfl fb22_Src rfl rfl rfl) ?_
          refine VL.r (.inl rfl) rfl (by decide) (yr_move rfl rfl) ?_
          refine VL.r (.inl rfl) rfl (by decide) (yr_move rfl rfl) ?_
          refine VL.r (.inl rfl) rfl (by decide) (yr_move rfl rfl) ?_
          refine VL.r (.inl rfl) rfl (by decide) (yr_subN (z - 1) rfl rfl rfl (by omega) (by omega)) ?_
          refine VL.q (.inl rfl) rfl (by decide) (yq_callf rfl known63_Src (.cons rfl (.cons rfl (.cons rfl (.cons rfl .nil)))) (fun w hw => (c_l06Value (x := x) (y := y) (z := z - 1) (by first | exact Sees.root (by assumption) w hw | exact Sees.own (by repeat (first | exact List.mem_cons_self | exact List.mem_append_left _ (by assumption) | apply List.mem_cons_of_mem | apply List.mem_append_right)) w hw) (by first | exact Sees.root (by assumption) w hw | exact Sees.own (by repeat (first | exact List.mem_cons_self | exact List.mem_append_left _ (by assumption) | apply List.mem_cons_of_mem | apply List.mem_append_right)) w hw) hN hbd (by omega) (by omega) (by omega)))) ?_
          refine VL.r (.inl rfl) rfl (by decide) (yr_field rfl Try.underlying32 rfl rfl fb22_Src rfl rfl rfl) ?_
          refine VL.r (.inl rfl) rfl (by decide) (yr_float rfl (.inr (.inl rfl)) rfl rfl) ?_
          refine VL.r (.inl rfl) rfl (by decide) (yr_move rfl rfl) ?_
          refine VL.r (.inl rfl) rfl (by decide) (yr_float rfl (.inr (.inr (.inr rfl))) rfl rfl) ?_
          refine VL.r (.inl rfl) rfl (by decide) (yr_float rfl (.inl rfl) rfl rfl) ?_
          refine VL.r (.inl rfl) rfl (by decide) (yr_assign rfl rfl) ?_
          refine VL.nil ?_
          refine VE.then_wp ?_
          refine V.seq ?_
          refine V.seq ?_
          refine V.region ?_
          refine VL.r (.inl rfl) rfl (by decide) (yr_move rfl rfl) ?_
          refine VL.q (.inl rfl) rfl (by decide) (yq_callf rfl known64_Src (.cons rfl .nil) (fun w hw => c_l01Finite _)) ?_
          refine VL.r (.inl rfl) rfl (by decide) (yr_not rfl rfl) ?_
          refine VL.nil ?_
          refine VE.then_wp ?_
          refine V.cond rfl (fun h5 => ?_) (fun h5 => ?_)
          · skip
            replace h5 := bnot_t h5
            refine V.seq ?_
            refine V.region ?_
            refine VL.r (.inl rfl) rfl (by decide) (yr_assign (u := .slice none 0 0) rfl rfl) ?_
            refine VL.r (.inl rfl) rfl (by decide) (yr_assign (u := .bool false) rfl rfl) ?_
            refine VL.nil ?_
            refine VE.then_wp ?_
            refine V.ret ?_
            refine VE.then_ret ?_
            refine VE.block_ret ?_
            refine VE.then_ret ?_
            refine VE.then_ret ?_
            refine VE.block_ret ?_
            refine VE.block_ret ?_
            refine VE.then_ret ?_
            refine VE.then_ret ?_
            refine VE.block_ret ?_
            refine VE.block_ret ?_
            refine VE.then_ret ?_
            refine VE.then_ret ?_
            refine VE.block_ret ?_
            refine VE.then_ret ?_
            refine ret2 rfl rfl rfl (by nofun) (by nofun) (fun w1 hw => ?_)
            first
              | (have hzn : (srcU vs W H D (srcTw st) (W * H * D)) = (srcU vs W H D (srcTw st) (nd W H 0 0 z)) := srcU_zn hge.1 hge.2.1 (by omega) (by omega)
                 have hs : srcOk (f1, f2, f3) st (W : Int) (H : Int) (D : Int) vs = true := srcOk_yes hok (by rw [he, hzn]; exact haz)
                 rw [srcD_yes hs, hs, he, hzn]
                 exact ⟨(ar, cr), rfl, hw.outs ((List.nil_sublist _).cons_cons _)⟩)
              | (have hs : srcOk (f1, f2, f3) st (W : Int) (H : Int) (D : Int) vs = false := srcOk_no2 (by
                   rw [he, ← Bool.not_eq_true, List.all_eq_true]
                   intro h9
                   have h8 : fin (srcAt vs W H (srcTw st) x y z) = true := h9 _ (srcU_mono (a := nd W H x y z + 1) (by omega) (by rw [srcU_in (by omega) (by omega) ⟨by omega, by omega, by omega, by omega, by omega, by omega⟩]; exact List.mem_append_right _ List.mem_cons_self))
                   have h7 : fin (srcAt vs W H (srcTw st) x y z) = false := by assumption
                   rw [h8] at h7; cases h7)
                 exact ⟨(none, 0), by rw [srcD_no hs, hs]; rfl, hw.below, by rw [srcD_no hs]; simp [fl, Ent.at], List.pairwise_singleton _ _⟩)
              | ((have hs : srcOk (f1, f2, f3) st wi hi de vs = false := by first | exact srcOk_no1 (by assumption) | exact srcOk_no2 (by rw [he]; assumption)); (exact ⟨(none, 0), by rw [srcD_no hs, hs]; rfl, hw.below, by rw [srcD_no hs]; simp [fl, Ent.at], List.pairwise_singleton _ _⟩))
          · skip
            replace h5 := bnot_f h5
            refine V.skip ?_
            refine VE.then_wp ?_
            refine V.region ?_
            refine VL.r (.inl rfl) rfl (by decide) (yr_move rfl rfl) ?_
            refine VL.r (.inl rfl) rfl (by decide) (yr_move rfl rfl) ?_
            refine VL.new1 (.inl rfl) rfl (by decide) (yn_lit rfl Try.underlying29 elt22_Src rfl (by decide) (.cons rfl .nil) (by first | (simp; done) | (simp [cn, cn1, cn0]; done)) rfl rfl rfl) ?_
            intro b93
            refine VL.c (.inl rfl) rfl (by decide) (yc_appendz 1 rfl rfl Try.underlying29 elt22_Src rfl rfl (by repeat (first | exact UpdF.here | apply UpdF.there | apply UpdF.thereS)) (by first | exact Sees.root (by assumption) | exact Sees.own (by repeat (first | exact List.mem_cons_self | exact List.mem_append_left _ (by assumption) | apply List.mem_cons_of_mem | apply List.mem_append_right)) | exact Sees.root (hR _ (by omega)) | exact Sees.own (RowsIn.mem (by repeat (first | exact RowsIn.here | exact RowsIn.last | apply RowsIn.there | apply RowsIn.thereS)) _ (by omega)) | exact Sees.own (WRowsIn.mem (by repeat (first | exact WRowsIn.here | exact WRowsIn.last | apply WRowsIn.there | apply WRowsIn.thereS)) _ (by omega))) rfl (by rw [fl_length]; omega) rfl (by first | rfl | exact fl_scal _) (by first | rfl | exact fl_scal _) (by omega) (by omega)) ?_
            rintro ⟨a94, c94⟩
            refine VL.r (.inl rfl) rfl (by decide) (yr_assign rfl rfl) ?_
            refine VL.nil ?_
            refine VE.block_normal ?_
            refine VE.then_wp ?_
            refine V.region ?_
            refine VL.r (.inl rfl) rfl (by decide) (yr_move rfl rfl) ?_
            refine VL.r (.inl rfl) rfl (by decide) (yr_int rfl rfl rfl (.inl ⟨rfl, wrap_in (by omega)⟩)) ?_
            refine VL.r (.inl rfl) rfl (by decide) (yr_assign rfl rfl) ?_
            refine VL.nil ?_
            refine VE.round (x + 1, a94, c94) ?_ ?_ ?_ ?_ ?_
            · exact (.cons (congrArg (fun n => some (Value.slice _ n _)) (by rw [show nd W H (x + 1) y z = nd W H x y z + 1 from by unfold nd; omega, srcU_in (by omega) (by omega) ⟨by omega, by omega, by omega, by omega, by omega, by omega⟩, List.length_append]; rfl)) (.cons rfl .nil))
            · exact (.cons rfl (.cons rfl (.cons rfl (.cons rfl .nil))))
            · exact (fun w hw => by
                have h8 := hw.sub (List.sublist_cons_self _ _)
                dsimp only
                rw [show nd W H (x + 1) y z = nd W H x y z + 1 from by unfold nd; omega, srcU_in (by omega) (by omega) ⟨by omega, by omega, by omega, by omega, by omega, by omega⟩, ← fl_snoc]
                exact h8)
            · exact ⟨by omega, by omega, by rw [show nd W H (x + 1) y z = nd W H x y z + 1 from by unfold nd; omega, srcU_in (by omega) (by omega) ⟨by omega, by omega, by omega, by omega, by omega, by omega⟩, List.all_append, hax, Bool.true_and, List.all_cons, List.all_nil, Bool.and_true]; assumption⟩
            · (try dsimp only); omega
        · skip
          replace h4 := ic_lss' h4
          refine V.exit ?_
          refine VE.then_exit ?_
          refine VE.then_exit ?_
          refine VE.block_here ?_
          refine VE.block_normal ?_
          refine VE.then_wp ?_
          refine V.region ?_
          refine VL.r (.inl rfl) rfl (by decide) (yr_move rfl rfl) ?_
          refine VL.r (.inl rfl) rfl (by decide) (yr_int rfl rfl rfl (.inl ⟨rfl, wrap_in (by omega)⟩)) ?_
          refine VL.r (.inl rfl) rfl (by decide) (yr_assign rfl rfl) ?_
          refine VL.nil ?_
          refine VE.round (y + 1, ar2, cr2) ?_ ?_ ?_ ?_ ?_
          · exact (.cons (congrArg (fun n => some (Value.slice _ n _)) (by rw [srcU_xn (by omega) (by omega)])) (.cons rfl .nil))
          · exact (.cons rfl (.cons rfl (.cons rfl .nil)))
          · exact (fun w hw => by dsimp only; rw [srcU_xn (by omega) (by omega)]; exact hw)
          · exact ⟨by omega, by omega, by rw [srcU_xn (by omega) (by omega)]; exact hax⟩
          · (try dsimp only); omega
      · skip
        replace h3 := ic_lss' h3
        refine V.exit ?_
        refine VE.then_exit ?_
        refine VE.then_exit ?_
        refine VE.block_here ?_
        refine VE.block_normal ?_
        refine VE.then_wp ?_
        refine V.region ?_
        refine VL.r (.inl rfl) rfl (by decide) (yr_move rfl rfl) ?_
        refine VL.r (.inl rfl) rfl (by decide) (yr_int rfl rfl rfl (.inl ⟨rfl, wrap_in (by omega)⟩)) ?_
        refine VL.r (.inl rfl) rfl (by decide) (yr_assign rfl rfl) ?_
        refine VL.nil ?_
        refine VE.round (z + 1, ar1, cr1) ?_ ?_ ?_ ?_ ?_
        · exact (.cons (congrArg (fun n => some (Value.slice _ n _)) (by rw [srcU_yn (by omega) (by omega)])) (.cons rfl .nil))
        · exact (.cons rfl (.cons rfl .nil))
        · exact (fun w hw => by dsimp only; rw [srcU_yn (by omega) (by omega)]; exact hw)
        · exact ⟨by omega, by omega, by rw [srcU_yn (by omega) (by omega)]; exact hay⟩
        · (try dsimp only); omega
    · skip
      replace h2 := ic_lss' h2
      refine V.exit ?_
      refine VE.then_exit ?_
      refine VE.then_exit ?_
      refine VE.block_here ?_
      refine VE.then_wp ?_
      refine V.seq ?_
      refine V.region ?_
      refine VL.r (.inl rfl) rfl (by decide) (yr_move rfl rfl) ?_
      refine VL.r (.inl rfl) rfl (by decide) (yr_assign rfl rfl) ?_
      refine VL.r (.inl rfl) rfl (by decide) (yr_assign (u := .bool true) rfl rfl) ?_
      refine VL.nil ?_
      refine VE.then_wp ?_
      refine V.ret ?_
      refine ret2 rfl rfl rfl (by nofun) (by nofun) (fun w1 hw => ?_)
      first
        | (have hzn : (srcU vs W H D (srcTw st) (W * H * D)) = (srcU vs W H D (srcTw st) (nd W H 0 0 z)) := srcU_zn hge.1 hge.2.1 (by omega) (by omega)
           have hs : srcOk (f1, f2, f3) st (W : Int) (H : Int) (D : Int) vs = true := srcOk_yes hok (by rw [he, hzn]; exact haz)
           rw [srcD_yes hs, hs, he, hzn]
           exact ⟨(ar, cr), rfl, hw.outs ((List.nil_sublist _).cons_cons _)⟩)
        | (have hs : srcOk (f1, f2, f3) st (W : Int) (H : Int) (D : Int) vs = false := srcOk_no2 (by
             rw [he, ← Bool.not_eq_true, List.all_eq_true]
             intro h9
             have h8 : fin (srcAt vs W H (srcTw st) x y z) = true := h9 _ (srcU_mono (a := nd W H x y z + 1) (by omega) (by rw [srcU_in (by omega) (by omega) ⟨by omega, by omega, by omega, by omega, by omega, by omega⟩]; exact List.mem_append_right _ List.mem_cons_self))
             have h7 : fin (srcAt vs W H (srcTw st) x y z) = false := by assumption
             rw [h8] at h7; cases h7)
           exact ⟨(none, 0), by rw [srcD_no hs, hs]; rfl, hw.below, by rw [srcD_no hs]; simp [fl, Ent.at], List.pairwise_singleton _ _⟩)
        | ((have hs : srcOk (f1, f2, f3) st wi hi de vs = false := by first | exact srcOk_no1 (by assumption) | exact srcOk_no2 (by rw [he]; assumption)); (exact ⟨(none, 0), by rw [srcD_no hs, hs]; rfl, hw.below, by rw [srcD_no hs]; simp [fl, Ent.at], List.pairwise_singleton _ _⟩))

theorem law_SourcesIn {w : World} {f1 f2 f3 st : Nat} {wi hi de : Int} {a : Option Addr} {c : Nat} {vs : List V3} (hA : Cl w a (vl vs)) (hX : Cans3 vs) (hm : vs.length ≤ 9223372036854775807) (hf : Can3 (f1, f2, f3)) (hst : Can .f32 st) : Pure Try.prog 3 [.agg #[.float .f32 f1, .float .f32 f2, .float .f32 f3, .float .f32 st, .int .i64 wi, .int .i64 hi, .int .i64 de, .slice a vs.length c]] w (.bool true) := by
  refine Pure.enter Try.func3 rfl Try.ntmps3 (Nat.le_of_ble_eq_true rfl) ?_
  have hS := can_srcD (f := (f1, f2, f3)) (st := st) (wi := wi) (hi := hi) (de := de) (vs := vs)
  have hSl := srcD_length (f := (f1, f2, f3)) (st := st) (wi := wi) (hi := hi) (de := de) (vs := vs)
  refine V.seq ?_
  refine V.region ?_
  refine VL.new1 (.inl rfl) rfl (by decide) (yn_box rfl rfl (.inr ⟨rfl, rfl⟩)) ?_
  intro b1
  refine VL.r (.inl rfl) rfl (by decide) (yr_assign (u := .bool false) rfl rfl) ?_
  refine VL.nil ?_
  refine VE.then_wp ?_
  refine V.seq ?_
  refine V.region ?_
  refine VL.r (.inl rfl) rfl (by decide) (yr_assign (u := .int .i64 1048576) rfl rfl) ?_
  refine VL.nil ?_
  refine VE.then_wp ?_
  refine V.seq ?_
  refine V.region ?_
  refine VL.q (.inl rfl) rfl (by decide) (yq_loadS rfl Try.underlying27 sz27_Src rfl (by first | exact Sees.root (by assumption) | exact Sees.own (by repeat (first | exact List.mem_cons_self | exact List.mem_append_left _ (by assumption) | apply List.mem_cons_of_mem | apply List.mem_append_right)) | exact Sees.root (hR _ (by omega)) | exact Sees.own (RowsIn.mem (by repeat (first | exact RowsIn.here | exact RowsIn.last | apply RowsIn.there | apply RowsIn.thereS)) _ (by omega)) | exact Sees.own (WRowsIn.mem (by repeat (first | exact WRowsIn.here | exact WRowsIn.last | apply WRowsIn.there | apply WRowsIn.thereS)) _ (by omega))) rfl rfl rfl) ?_
  refine VL.r (.inl rfl) rfl (by decide) (yr_move rfl rfl) ?_
  refine VL.q (.inl rfl) rfl (by decide) (yq_callf rfl known14_Src (.cons rfl (.cons rfl .nil)) (fun w hw => (c_szMesh (by omega) (by omega) (by omega)))) ?_
  refine VL.r (.inl rfl) rfl (by decide) (yr_assign rfl rfl) ?_
  refine VL.nil ?_
  refine VE.then_wp ?_
  refine V.seq ?_
  refine V.seq ?_
  refine V.region ?_
  refine VL.r (.inl rfl) rfl (by decide) (yr_move rfl rfl) ?_
  refine VL.r (.inl rfl) rfl (by decide) (yr_icmp rfl (.inr (.inr (.inl rfl))) rfl rfl) ?_
  refine VL.nil ?_
  refine VE.then_wp ?_
  refine V.cond rfl (fun h1 => ?_) (fun h1 => ?_)
  · skip
    replace h1 := ic_lss h1
    refine V.seq ?_
    refine V.region ?_
    refine VL.r (.inl rfl) rfl (by decide) (yr_assign (u := .bool true) rfl rfl) ?_
    refine VL.nil ?_
    refine VE.then_wp ?_
    refine V.ret ?_
    refine VE.then_ret ?_
    refine ret1 rfl rfl (fun w1 hw => ?_)
    exact ⟨rfl, hw.below⟩
  · skip
    replace h1 := ic_lss' h1
    have hsz := szOf_fits h1
    refine V.skip ?_
    refine VE.then_wp ?_
    refine V.seq ?_
    refine V.region ?_
    refine VL.q (.inl rfl) rfl (by decide) (yq_loadS rfl Try.underlying27 sz27_Src rfl (by first | exact Sees.root (by assumption) | exact Sees.own (by repeat (first | exact List.mem_cons_self | exact List.mem_append_left _ (by assumption) | apply List.mem_cons_of_mem | apply List.mem_append_right)) | exact Sees.root (hR _ (by omega)) | exact Sees.own (RowsIn.mem (by repeat (first | exact RowsIn.here | exact RowsIn.last | apply RowsIn.there | apply RowsIn.thereS)) _ (by omega)) | exact Sees.own (WRowsIn.mem (by repeat (first | exact WRowsIn.here | exact WRowsIn.last | apply WRowsIn.there | apply WRowsIn.thereS)) _ (by omega))) rfl rfl rfl) ?_
    refine VL.new1 (.inl rfl) rfl (by decide) (yn_callf rfl known16_Src (.cons rfl .nil) (fun w hw => (c_toMesh (by first | exact Sees.root (by assumption) w hw | exact Sees.own (by repeat (first | exact List.mem_cons_self | exact List.mem_append_left _ (by assumption) | apply List.mem_cons_of_mem | apply List.mem_append_right)) w hw) (by omega)))) ?_
    intro b21
    refine VL.new1 (.inl rfl) rfl (by decide) (yn_callf rfl known15_Src (.cons rfl .nil) (fun w hw => (c_specSrc (by first | exact Sees.root (by assumption) w hw | exact Sees.own (by repeat (first | exact List.mem_cons_self | exact List.mem_append_left _ (by assumption) | apply List.mem_cons_of_mem | apply List.mem_append_right)) w hw)))) ?_
    rintro ⟨a22, c22⟩
    refine VL.r (.inl rfl) rfl (by decide) (yr_move rfl rfl) ?_
    refine VL.r (.inl rfl) rfl (by decide) (yr_extract rfl rfl rfl (by nofun)) ?_
    refine VL.r (.inl rfl) rfl (by decide) (yr_extract rfl rfl rfl (by nofun)) ?_
    refine VL.r (.inl rfl) rfl (by decide) (yr_assign rfl rfl) ?_
    refine VL.r (.inl rfl) rfl (by decide) (yr_assign rfl rfl) ?_
    refine VL.nil ?_
    refine VE.then_wp ?_
    refine V.seq ?_
    refine V.region ?_
    refine VL.q (.inl rfl) rfl (by decide) (yq_loadS rfl Try.underlying27 sz27_Src rfl (by first | exact Sees.root (by assumption) | exact Sees.own (by repeat (first | exact List.mem_cons_self | exact List.mem_append_left _ (by assumption) | apply List.mem_cons_of_mem | apply List.mem_append_right)) | exact Sees.root (hR _ (by omega)) | exact Sees.own (RowsIn.mem (by repeat (first | exact RowsIn.here | exact RowsIn.last | apply RowsIn.there | apply RowsIn.thereS)) _ (by omega)) | exact Sees.own (WRowsIn.mem (by repeat (first | exact WRowsIn.here | exact WRowsIn.last | apply WRowsIn.there | apply WRowsIn.thereS)) _ (by omega))) rfl rfl rfl) ?_
    refine VL.new1 (.inl rfl) rfl (by decide) (yn_callf rfl known16_Src (.cons rfl .nil) (fun w hw => (c_toMesh (by first | exact Sees.root (by assumption) w hw | exact Sees.own (by repeat (first | exact List.mem_cons_self | exact List.mem_append_left _ (by assumption) | apply List.mem_cons_of_mem | apply List.mem_append_right)) w hw) (by omega)))) ?_
    intro b26
    refine VL.new1 (.inl rfl) rfl (by decide) (yn_alloc rfl zero35_Src rfl) ?_
    intro b6
    refine VL.s (.inl rfl) rfl (yc_store rfl sz35_Src rfl rfl (by repeat (first | exact UpdF.here | apply UpdF.there | apply UpdF.thereS)) (.inr ⟨rfl, rfl⟩) rfl (by first | exact Nat.le_of_ble_eq_true rfl | simp) (by decide) rfl) ?_
    rintro ⟨⟩
    refine VL.nil ?_
    refine VE.then_wp ?_
    refine V.seq ?_
    refine V.region ?_
    refine VL.q (.inl rfl) rfl (by decide) (yq_loadS rfl Try.underlying35 sz35_Src rfl (by first | exact Sees.root (by assumption) | exact Sees.own (by repeat (first | exact List.mem_cons_self | exact List.mem_append_left _ (by assumption) | apply List.mem_cons_of_mem | apply List.mem_append_right)) | exact Sees.root (hR _ (by omega)) | exact Sees.own (RowsIn.mem (by repeat (first | exact RowsIn.here | exact RowsIn.last | apply RowsIn.there | apply RowsIn.thereS)) _ (by omega)) | exact Sees.own (WRowsIn.mem (by repeat (first | exact WRowsIn.here | exact WRowsIn.last | apply WRowsIn.there | apply WRowsIn.thereS)) _ (by omega))) rfl rfl rfl) ?_
    refine VL.new1 (.inl rfl) rfl (by decide) (yn_callf rfl known17_Src (.cons rfl .nil) (fun w hw => (c_implSrc (by first | exact Sees.root (by assumption) w hw | exact Sees.own (by repeat (first | exact List.mem_cons_self | exact List.mem_append_left _ (by assumption) | apply List.mem_cons_of_mem | apply List.mem_append_right)) w hw)))) ?_
    rintro ⟨a29, c29⟩
    refine VL.r (.inl rfl) rfl (by decide) (yr_move rfl rfl) ?_
    refine VL.r (.inl rfl) rfl (by decide) (yr_extract rfl rfl rfl (by nofun)) ?_
    refine VL.r (.inl rfl) rfl (by decide) (yr_extract rfl rfl rfl (by nofun)) ?_
    refine VL.r (.inl rfl) rfl (by decide) (yr_assign rfl rfl) ?_
    refine VL.r (.inl rfl) rfl (by decide) (yr_assign rfl rfl) ?_
    refine VL.nil ?_
    refine VE.then_wp ?_
    refine V.seq ?_
    refine V.seq ?_
    refine V.region ?_
    refine VL.r (.inl rfl) rfl (by decide) (yr_move rfl rfl) ?_
    refine VL.r (.inl rfl) rfl (by decide) (yr_move rfl rfl) ?_
    refine VL.q (.inl rfl) rfl (by decide) (yq_callf rfl known18_Src (.cons rfl (.cons rfl .nil)) (fun w hw => c_eqF (by first | exact Sees.root (by assumption) w hw | exact Sees.own (by repeat (first | exact List.mem_cons_self | exact List.mem_append_left _ (by assumption) | apply List.mem_cons_of_mem | apply List.mem_append_right)) w hw) (by first | exact Sees.root (by assumption) w hw | exact Sees.own (by repeat (first | exact List.mem_cons_self | exact List.mem_append_left _ (by assumption) | apply List.mem_cons_of_mem | apply List.mem_append_right)) w hw) (by first | assumption | exact can_up _ | exact can_fop _ _ _ _ | exact can_of _ (by assumption)) (by first | assumption | exact can_up _ | exact can_fop _ _ _ _ | exact can_of _ (by assumption)) (by omega))) ?_
    refine VL.r (.inl rfl) rfl (by decide) (yr_not rfl rfl) ?_
    refine VL.r (.inl rfl) rfl (by decide) (yr_move rfl rfl) ?_
    refine VX.split 36 _ rfl (fun h2 => ?_) (fun h2 => ?_)
    · skip
      replace h2 := bnot_t h2
      first | (exfalso; omega) | (simp [bcmp] at h2; done)
    · skip
      replace h2 := bnot_f h2
      refine VL.r (.inr ⟨_, _, _, rfl, rfl, rfl⟩) rfl (by decide) (yr_move rfl rfl) ?_
      refine VL.r (.inr ⟨_, _, _, rfl, rfl, rfl⟩) rfl (by decide) (yr_move rfl rfl) ?_
      refine VL.r (.inr ⟨_, _, _, rfl, rfl, rfl⟩) rfl (by decide) (yr_bcmp rfl Try.underlying4 rfl rfl (.inr rfl)) ?_
      refine VL.r (.inl rfl) rfl (by decide) (yr_pick_f rfl rfl rfl) ?_
      refine VL.nil ?_
      refine VE.then_wp ?_
      refine V.cond rfl (fun h3 => ?_) (fun h3 => ?_)
      · skip
        first | (exfalso; omega) | (simp [bcmp] at h3; done)
      · skip
        refine V.skip ?_
        refine VE.then_wp ?_
        refine V.seq ?_
        refine V.seq ?_
        refine V.draw [(0, 0), (1, 0), (2, 1), (3, 0), (4, 0)] mixed_Src (by kernel_rfl) (by intro j o hj; simp at hj) ?_
        refine SW.q rfl (.inl rfl) rfl (by decide) (yq_loadS rfl Try.underlying35 sz35_Src rfl (by first | exact Sees.root (by assumption) | exact Sees.own (by repeat (first | exact List.mem_cons_self | exact List.mem_append_left _ (by assumption) | apply List.mem_cons_of_mem | apply List.mem_append_right)) | exact Sees.root (hR _ (by omega)) | exact Sees.own (RowsIn.mem (by repeat (first | exact RowsIn.here | exact RowsIn.last | apply RowsIn.there | apply RowsIn.thereS)) _ (by omega)) | exact Sees.own (WRowsIn.mem (by repeat (first | exact WRowsIn.here | exact WRowsIn.last | apply WRowsIn.there | apply WRowsIn.thereS)) _ (by omega))) rfl rfl rfl) ?_
        refine SW.q rfl (.inl rfl) rfl (by decide) (yq_loadS rfl Try.underlying27 sz27_Src rfl (by first | exact Sees.root (by assumption) | exact Sees.own (by repeat (first | exact List.mem_cons_self | exact List.mem_append_left _ (by assumption) | apply List.mem_cons_of_mem | apply List.mem_append_right)) | exact Sees.root (hR _ (by omega)) | exact Sees.own (RowsIn.mem (by repeat (first | exact RowsIn.here | exact RowsIn.last | apply RowsIn.there | apply RowsIn.thereS)) _ (by omega)) | exact Sees.own (WRowsIn.mem (by repeat (first | exact WRowsIn.here | exact WRowsIn.last | apply WRowsIn.there | apply WRowsIn.thereS)) _ (by omega))) rfl rfl rfl) ?_
        refine SW.new1 rfl (.inl rfl) rfl (by decide) (yn_callf rfl known16_Src (.cons rfl .nil) (fun w hw => (c_toMesh (by first | exact Sees.root (by assumption) w hw | exact Sees.own (by repeat (first | exact List.mem_cons_self | exact List.mem_append_left _ (by assumption) | apply List.mem_cons_of_mem | apply List.mem_append_right)) w hw) (by omega)))) ?_
        intro b43
        refine SW.q rfl (.inl rfl) rfl (by decide) (yq_callf rfl known19_Src (.cons rfl (.cons rfl .nil)) (fun w hw => (c_eqMesh (by first | exact Sees.root (by assumption) w hw | exact Sees.own (by repeat (first | exact List.mem_cons_self | exact List.mem_append_left _ (by assumption) | apply List.mem_cons_of_mem | apply List.mem_append_right)) w hw) (by first | exact Sees.root (by assumption) w hw | exact Sees.own (by repeat (first | exact List.mem_cons_self | exact List.mem_append_left _ (by assumption) | apply List.mem_cons_of_mem | apply List.mem_append_right)) w hw) (by assumption) (by assumption) (by assumption) (by assumption) (by assumption) (by assumption) (by omega)))) ?_
        refine SW.r rfl (.inl rfl) rfl (by decide) (yr_not rfl rfl) ?_
        refine SW.done ?_
        refine VE.then_wp ?_
        refine V.cond rfl (fun h4 => ?_) (fun h4 => ?_)
        · skip
          replace h4 := bnot_t h4
          first | (exfalso; omega) | (simp [bcmp] at h4; done)
        · skip
          replace h4 := bnot_f h4
          refine V.skip ?_
          refine VE.then_wp ?_
          refine V.seq ?_
          refine V.region ?_
          refine VL.r (.inl rfl) rfl (by decide) (yr_assign (u := .int .i64 1) rfl rfl) ?_
          refine VL.nil ?_
          refine VE.then_wp ?_
          refine V.seq ?_
          refine V.region ?_
          refine VL.q (.inl rfl) rfl (by decide) (yq_loadS rfl Try.underlying35 sz35_Src rfl (by first | exact Sees.root (by assumption) | exact Sees.own (by repeat (first | exact List.mem_cons_self | exact List.mem_append_left _ (by assumption) | apply List.mem_cons_of_mem | apply List.mem_append_right)) | exact Sees.root (hR _ (by omega)) | exact Sees.own (RowsIn.mem (by repeat (first | exact RowsIn.here | exact RowsIn.last | apply RowsIn.there | apply RowsIn.thereS)) _ (by omega)) | exact Sees.own (WRowsIn.mem (by repeat (first | exact WRowsIn.here | exact WRowsIn.last | apply WRowsIn.there | apply WRowsIn.thereS)) _ (by omega))) rfl rfl rfl) ?_
          refine VL.r (.inl rfl) rfl (by decide) (yr_move rfl rfl) ?_
          refine VL.c (.inl rfl) rfl (by decide) (yc_callf rfl known20_Src (.cons rfl (.cons rfl .nil)) (by apply Pick.one; repeat (first | exact Rem.here | apply Rem.there | apply Rem.thereS)) (c_markMesh (by omega) (by omega) (by omega))) ?_
          rintro ⟨⟩
          refine VL.r (.inl rfl) rfl (by decide) (yr_assign rfl rfl) ?_
          refine VL.nil ?_
          refine VE.then_wp ?_
          refine V.seq ?_
          refine V.seq ?_
          refine V.region ?_
          refine VL.r (.inl rfl) rfl (by decide) (yr_move rfl rfl) ?_
          refine VL.r (.inl rfl) rfl (by decide) (yr_icmp rfl (.inr (.inr (.inl rfl))) rfl rfl) ?_
          refine VL.r (.inl rfl) rfl (by decide) (yr_move rfl rfl) ?_
          refine VX.split 51 _ rfl (fun h5 => ?_) (fun h5 => ?_)
          · skip
            replace h5 := ic_lss h5
            first | (exfalso; omega) | (simp [bcmp] at h5; done)
          · skip
            replace h5 := ic_lss' h5
            refine VL.r (.inr ⟨_, _, _, rfl, rfl, rfl⟩) rfl (by decide) (yr_move rfl rfl) ?_
            refine VL.r (.inr ⟨_, _, _, rfl, rfl, rfl⟩) rfl (by decide) (yr_move rfl rfl) ?_
            refine VL.q (.inr ⟨_, _, _, rfl, rfl, rfl⟩) rfl (by decide) (yq_callf rfl known18_Src (.cons rfl (.cons rfl .nil)) (fun w hw => c_eqF (by first | exact Sees.root (by assumption) w hw | exact Sees.own (by repeat (first | exact List.mem_cons_self | exact List.mem_append_left _ (by assumption) | apply List.mem_cons_of_mem | apply List.mem_append_right)) w hw) (by first | exact Sees.root (by assumption) w hw | exact Sees.own (by repeat (first | exact List.mem_cons_self | exact List.mem_append_left _ (by assumption) | apply List.mem_cons_of_mem | apply List.mem_append_right)) w hw) (by first | assumption | exact can_up _ | exact can_fop _ _ _ _ | exact can_of _ (by assumption)) (by first | assumption | exact can_up _ | exact can_fop _ _ _ _ | exact can_of _ (by assumption)) (by omega))) ?_
            refine VL.r (.inr ⟨_, _, _, rfl, rfl, rfl⟩) rfl (by decide) (yr_not rfl rfl) ?_
            refine VL.r (.inl rfl) rfl (by decide) (yr_pick_f rfl rfl rfl) ?_
            refine VL.r (.inl rfl) rfl (by decide) (yr_move rfl rfl) ?_
            refine VX.split 57 _ rfl (fun h6 => ?_) (fun h6 => ?_)
            · skip
              replace h6 := bnot_t h6
              first | (exfalso; omega) | (simp [bcmp] at h6; done)
            · skip
              replace h6 := bnot_f h6
              refine VL.r (.inr ⟨_, _, _, rfl, rfl, rfl⟩) rfl (by decide) (yr_move rfl rfl) ?_
              refine VL.r (.inr ⟨_, _, _, rfl, rfl, rfl⟩) rfl (by decide) (yr_move rfl rfl) ?_
              refine VL.r (.inr ⟨_, _, _, rfl, rfl, rfl⟩) rfl (by decide) (yr_bcmp rfl Try.underlying4 rfl rfl (.inr rfl)) ?_
              refine VL.r (.inl rfl) rfl (by decide) (yr_pick_f rfl rfl rfl) ?_
              refine VL.nil ?_
              refine VE.then_wp ?_
              refine V.cond rfl (fun h7 => ?_) (fun h7 => ?_)
              · skip
                first | (exfalso; omega) | (simp [bcmp] at h7; done)
              · skip
                refine V.skip ?_
                refine VE.then_wp ?_
                refine V.seq ?_
                refine V.region ?_
                refine VL.r (.inl rfl) rfl (by decide) (yr_assign (u := .int .i64 1) rfl rfl) ?_
                refine VL.nil ?_
                refine VE.then_wp ?_
                refine V.seq ?_
                refine V.region ?_
                refine VL.r (.inl rfl) rfl (by decide) (yr_move rfl rfl) ?_
                refine VL.r (.inl rfl) rfl (by decide) (yr_move rfl rfl) ?_
                refine VL.c (.inl rfl) rfl (by decide) (yc_callf rfl known21_Src (.cons rfl (.cons rfl .nil)) (by apply Pick.one; repeat (first | exact Rem.here | apply Rem.there | apply Rem.thereS)) (c_markF (by omega) (by omega) (by omega))) ?_
                rintro ⟨⟩
                refine VL.r (.inl rfl) rfl (by decide) (yr_assign rfl rfl) ?_
                refine VL.nil ?_
                refine VE.then_wp ?_
                refine V.seq ?_
                refine V.region ?_
                refine VL.r (.inl rfl) rfl (by decide) (yr_assign (u := .int .i64 1) rfl rfl) ?_
                refine VL.nil ?_
                refine VE.then_wp ?_
                refine V.seq ?_
                refine V.region ?_
                refine VL.r (.inl rfl) rfl (by decide) (yr_move rfl rfl) ?_
                refine VL.r (.inl rfl) rfl (by decide) (yr_move rfl rfl) ?_
                refine VL.q (.inl rfl) rfl (by decide) (yq_callf rfl known22_Src (.cons rfl (.cons rfl .nil)) (fun w hw => c_heldF (by first | exact Sees.root (by assumption) w hw | exact Sees.own (by repeat (first | exact List.mem_cons_self | exact List.mem_append_left _ (by assumption) | apply List.mem_cons_of_mem | apply List.mem_append_right)) w hw) (by omega) (by omega) (by omega))) ?_
                refine VL.r (.inl rfl) rfl (by decide) (yr_assign rfl rfl) ?_
                refine VL.nil ?_
                refine VE.then_wp ?_
                refine V.seq ?_
                refine V.seq ?_
                refine V.region ?_
                refine VL.r (.inl rfl) rfl (by decide) (yr_move rfl rfl) ?_
                refine VL.r (.inl rfl) rfl (by decide) (yr_icmp rfl (.inr (.inr (.inl rfl))) rfl rfl) ?_
                refine VL.nil ?_
                refine VE.then_wp ?_
                refine V.cond rfl (fun h8 => ?_) (fun h8 => ?_)
                · skip
                  replace h8 := ic_lss h8
                  first | (exfalso; omega) | (simp [bcmp] at h8; done)
                · skip
                  replace h8 := ic_lss' h8
                  refine V.skip ?_
                  refine VE.then_wp ?_
                  refine V.seq ?_
                  refine V.seq ?_
                  refine V.region ?_
                  refine VL.r (.inl rfl) rfl (by decide) (yr_move rfl rfl) ?_
                  refine VL.r (.inl rfl) rfl (by decide) (yr_move rfl rfl) ?_
                  refine VL.r (.inl rfl) rfl (by decide) (yr_icmp rfl (.inr (.inl rfl)) rfl rfl) ?_
                  refine VL.nil ?_
                  refine VE.then_wp ?_
                  refine V.cond rfl (fun h9 => ?_) (fun h9 => ?_)
                  · skip
                    replace h9 := ic_neq h9
                    first | (exfalso; omega) | (simp [bcmp] at h9; done)
                  · skip
                    replace h9 := ic_neq' h9
                    refine V.skip ?_
                    refine VE.then_wp ?_
                    refine V.seq ?_
                    refine V.region ?_
                    refine VL.q (.inl rfl) rfl (by decide) (yq_loadS rfl Try.underlying27 sz27_Src rfl (by first | exact Sees.root (by assumption) | exact Sees.own (by repeat (first | exact List.mem_cons_self | exact List.mem_append_left _ (by assumption) | apply List.mem_cons_of_mem | apply List.mem_append_right)) | exact Sees.root (hR _ (by omega)) | exact Sees.own (RowsIn.mem (by repeat (first | exact RowsIn.here | exact RowsIn.last | apply RowsIn.there | apply RowsIn.thereS)) _ (by omega)) | exact Sees.own (WRowsIn.mem (by repeat (first | exact WRowsIn.here | exact WRowsIn.last | apply WRowsIn.there | apply WRowsIn.thereS)) _ (by omega))) rfl rfl rfl) ?_
                    refine VL.new1 (.inl rfl) rfl (by decide) (yn_callf rfl known16_Src (.cons rfl .nil) (fun w hw => (c_toMesh (by first | exact Sees.root (by assumption) w hw | exact Sees.own (by repeat (first | exact List.mem_cons_self | exact List.mem_append_left _ (by assumption) | apply List.mem_cons_of_mem | apply List.mem_append_right)) w hw) (by omega)))) ?_
                    intro b75
                    refine VL.new1 (.inl rfl) rfl (by decide) (yn_callf rfl known17_Src (.cons rfl .nil) (fun w hw => (c_implSrc (by first | exact Sees.root (by assumption) w hw | exact Sees.own (by repeat (first | exact List.mem_cons_self | exact List.mem_append_left _ (by assumption) | apply List.mem_cons_of_mem | apply List.mem_append_right)) w hw)))) ?_
                    rintro ⟨a76, c76⟩
                    refine VL.r (.inl rfl) rfl (by decide) (yr_move rfl rfl) ?_
                    refine VL.r (.inl rfl) rfl (by decide) (yr_extract rfl rfl rfl (by nofun)) ?_
                    refine VL.r (.inl rfl) rfl (by decide) (yr_extract rfl rfl rfl (by nofun)) ?_
                    refine VL.r (.inl rfl) rfl (by decide) (yr_assign rfl rfl) ?_
                    refine VL.r (.inl rfl) rfl (by decide) (yr_assign rfl rfl) ?_
                    refine VL.nil ?_
                    refine VE.then_wp ?_
                    refine V.seq ?_
                    refine V.seq ?_
                    refine V.region ?_
                    refine VL.r (.inl rfl) rfl (by decide) (yr_move rfl rfl) ?_
                    refine VL.r (.inl rfl) rfl (by decide) (yr_move rfl rfl) ?_
                    refine VL.q (.inl rfl) rfl (by decide) (yq_callf rfl known18_Src (.cons rfl (.cons rfl .nil)) (fun w hw => c_eqF (by first | exact Sees.root (by assumption) w hw | exact Sees.own (by repeat (first | exact List.mem_cons_self | exact List.mem_append_left _ (by assumption) | apply List.mem_cons_of_mem | apply List.mem_append_right)) w hw) (by first | exact Sees.root (by assumption) w hw | exact Sees.own (by repeat (first | exact List.mem_cons_self | exact List.mem_append_left _ (by assumption) | apply List.mem_cons_of_mem | apply List.mem_append_right)) w hw) (by first | assumption | exact can_up _ | exact can_fop _ _ _ _ | exact can_of _ (by assumption)) (by first | assumption | exact can_up _ | exact can_fop _ _ _ _ | exact can_of _ (by assumption)) (by omega))) ?_
                    refine VL.r (.inl rfl) rfl (by decide) (yr_not rfl rfl) ?_
                    refine VL.r (.inl rfl) rfl (by decide) (yr_move rfl rfl) ?_
                    refine VX.split 83 _ rfl (fun h10 => ?_) (fun h10 => ?_)
                    · skip
                      replace h10 := bnot_t h10
                      first | (exfalso; omega) | (simp [bcmp] at h10; done)
                    · skip
                      replace h10 := bnot_f h10
                      refine VL.r (.inr ⟨_, _, _, rfl, rfl, rfl⟩) rfl (by decide) (yr_move rfl rfl) ?_
                      refine VL.r (.inr ⟨_, _, _, rfl, rfl, rfl⟩) rfl (by decide) (yr_move rfl rfl) ?_
                      refine VL.r (.inr ⟨_, _, _, rfl, rfl, rfl⟩) rfl (by decide) (yr_bcmp rfl Try.underlying4 rfl rfl (.inr rfl)) ?_
                      refine VL.r (.inl rfl) rfl (by decide) (yr_pick_f rfl rfl rfl) ?_
                      refine VL.nil ?_
                      refine VE.then_wp ?_
                      refine V.cond rfl (fun h11 => ?_) (fun h11 => ?_)
                      · skip
                        first | (exfalso; omega) | (simp [bcmp] at h11; done)
                      · skip
                        refine V.skip ?_
                        refine VE.then_wp ?_
                        refine V.seq ?_
                        refine V.region ?_
                        refine VL.r (.inl rfl) rfl (by decide) (yr_assign (u := .int .i64 1) rfl rfl) ?_
                        refine VL.nil ?_
                        refine VE.then_wp ?_
                        refine V.seq ?_
                        refine V.region ?_
                        refine VL.r (.inl rfl) rfl (by decide) (yr_move rfl rfl) ?_
                        refine VL.r (.inl rfl) rfl (by decide) (yr_move rfl rfl) ?_
                        refine VL.q (.inl rfl) rfl (by decide) (yq_callf rfl known22_Src (.cons rfl (.cons rfl .nil)) (fun w hw => c_heldF (by first | exact Sees.root (by assumption) w hw | exact Sees.own (by repeat (first | exact List.mem_cons_self | exact List.mem_append_left _ (by assumption) | apply List.mem_cons_of_mem | apply List.mem_append_right)) w hw) (by omega) (by omega) (by omega))) ?_
                        refine VL.r (.inl rfl) rfl (by decide) (yr_assign rfl rfl) ?_
                        refine VL.nil ?_
                        refine VE.then_wp ?_
                        refine V.seq ?_
                        refine V.seq ?_
                        refine V.region ?_
                        refine VL.r (.inl rfl) rfl (by decide) (yr_move rfl rfl) ?_
                        refine VL.r (.inl rfl) rfl (by decide) (yr_icmp rfl (.inr (.inr (.inl rfl))) rfl rfl) ?_
                        refine VL.nil ?_
                        refine VE.then_wp ?_
                        refine V.cond rfl (fun h12 => ?_) (fun h12 => ?_)
                        · skip
                          replace h12 := ic_lss h12
                          first | (exfalso; omega) | (simp [bcmp] at h12; done)
                        · skip
                          replace h12 := ic_lss' h12
                          refine V.skip ?_
                          refine VE.then_wp ?_
                          refine V.seq ?_
                          refine V.seq ?_
                          refine V.region ?_
                          refine VL.r (.inl rfl) rfl (by decide) (yr_move rfl rfl) ?_
                          refine VL.r (.inl rfl) rfl (by decide) (yr_move rfl rfl) ?_
                          refine VL.r (.inl rfl) rfl (by decide) (yr_icmp rfl (.inr (.inl rfl)) rfl rfl) ?_
                          refine VL.nil ?_
                          refine VE.then_wp ?_
                          refine V.cond rfl (fun h13 => ?_) (fun h13 => ?_)
                          · skip
                            replace h13 := ic_neq h13
                            first | (exfalso; omega) | (simp [bcmp] at h13; done)
                          · skip
                            replace h13 := ic_neq' h13
                            refine V.skip ?_
                            refine VE.then_wp ?_
                            refine V.seq ?_
                            refine V.region ?_
                            refine VL.r (.inl rfl) rfl (by decide) (yr_assign (u := .bool true) rfl rfl) ?_
                            refine VL.nil ?_
                            refine VE.then_wp ?_
                            refine V.ret ?_
                            refine ret1 rfl rfl (fun w1 hw => ?_)
                            exact ⟨rfl, hw.below⟩

end Go.Proofs.Ytacjcomjnabmhaa
