/- Walks: Fill. Printed by gen.py. -/
import Derived.Test.YtacjcomjnabmhaaWMesh
import Derived.Test.YtacjcomjnabmhaaFill
import Derived.KernelRfl
namespace Go.Proofs.Ytacjcomjnabmhaa
open Go.RowKit
set_option linter.unusedVariables false
set_option linter.unusedSimpArgs false
set_option maxRecDepth 20000

theorem mixed_Fill : Try.prog.follows .mixedOrders = true := by kernel_rfl
theorem fb57_Fill : flatB Try.prog 57 = true := by kernel_rfl
theorem sz35_Fill : (Try.prog.info? 35).map (·.size) = some 8 := by kernel_rfl
theorem known126_Fill : Known Try.prog 126 := Known.mk' Try.func126 (by kernel_rfl)
theorem known125_Fill : Known Try.prog 125 := Known.mk' Try.func125 (by kernel_rfl)
theorem zero32_Fill : (Try.prog.info? 32).bind (·.zero) = some (Value.agg #[Value.float .f32 0, Value.float .f32 0, Value.float .f32 0]) := by kernel_rfl
theorem sz32_Fill : (Try.prog.info? 32).map (·.size) = some 3 := by kernel_rfl
theorem fb4_Fill : flatB Try.prog 4 = true := by kernel_rfl
theorem sz4_Fill : (Try.prog.info? 4).map (·.size) = some 1 := by kernel_rfl
theorem sz33_Fill : (Try.prog.info? 33).map (·.size) = some 1 := by kernel_rfl
theorem fb33_Fill : flatB Try.prog 33 = true := by kernel_rfl
theorem elt32_Fill : Elt Try.prog 32 [Value.float .f32 0, Value.float .f32 0, Value.float .f32 0] 12 := Elt.mk' (by kernel_rfl) (by decide)
theorem zero35_Fill : (Try.prog.info? 35).bind (·.zero) = some (Value.agg #[Value.float .f32 0, Value.float .f32 0, Value.float .f32 0, Value.float .f32 0, Value.int .i64 0, Value.int .i64 0, Value.int .i64 0, Value.slice none 0 0]) := by kernel_rfl
theorem lay35_Fill : Lay Try.prog 35 [Value.float .f32 0, Value.float .f32 0, Value.float .f32 0, Value.float .f32 0, Value.int .i64 0, Value.int .i64 0, Value.int .i64 0, Value.slice none 0 0] [(0, 3), (3, 1), (4, 1), (5, 1), (6, 1), (7, 1)] := Lay.mk' (by kernel_rfl) (by kernel_rfl)
theorem known112_Fill : Known Try.prog 112 := Known.mk' Try.func112 (by kernel_rfl)
theorem known123_Fill : Known Try.prog 123 := Known.mk' Try.func123 (by kernel_rfl)
theorem zero4_Fill : (Try.prog.info? 4).bind (·.zero) = some (Value.bool false) := by kernel_rfl
theorem known124_Fill : Known Try.prog 124 := Known.mk' Try.func124 (by kernel_rfl)
theorem known67_Fill : Known Try.prog 67 := Known.mk' Try.func67 (by kernel_rfl)
theorem known127_Fill : Known Try.prog 127 := Known.mk' Try.func127 (by kernel_rfl)
theorem known116_Fill : Known Try.prog 116 := Known.mk' Try.func116 (by kernel_rfl)
theorem known117_Fill : Known Try.prog 117 := Known.mk' Try.func117 (by kernel_rfl)
theorem known118_Fill : Known Try.prog 118 := Known.mk' Try.func118 (by kernel_rfl)
theorem known119_Fill : Known Try.prog 119 := Known.mk' Try.func119 (by kernel_rfl)
theorem known120_Fill : Known Try.prog 120 := Known.mk' Try.func120 (by kernel_rfl)
theorem known121_Fill : Known Try.prog 121 := Known.mk' Try.func121 (by kernel_rfl)
theorem known43_Fill : Known Try.prog 43 := Known.mk' Try.func43 (by kernel_rfl)
theorem sz24_Fill : (Try.prog.info? 24).map (·.size) = some 3 := by kernel_rfl
theorem known45_Fill : Known Try.prog 45 := Known.mk' Try.func45 (by kernel_rfl)
theorem known46_Fill : Known Try.prog 46 := Known.mk' Try.func46 (by kernel_rfl)
theorem known44_Fill : Known Try.prog 44 := Known.mk' Try.func44 (by kernel_rfl)
theorem known47_Fill : Known Try.prog 47 := Known.mk' Try.func47 (by kernel_rfl)
theorem known19_Fill : Known Try.prog 19 := Known.mk' Try.func19 (by kernel_rfl)
theorem known48_Fill : Known Try.prog 48 := Known.mk' Try.func48 (by kernel_rfl)
theorem known49_Fill : Known Try.prog 49 := Known.mk' Try.func49 (by kernel_rfl)
theorem known20_Fill : Known Try.prog 20 := Known.mk' Try.func20 (by kernel_rfl)
theorem known50_Fill : Known Try.prog 50 := Known.mk' Try.func50 (by kernel_rfl)
attribute [local irreducible] fop fcmp fconv sqrt32 fneg segF fieldS fieldI List.getD

theorem c_fillNode {w0 : World} {a : Option Addr} {c : Nat} {f : Nat → Option Addr × Nat} {ws : List Wr} {f1 f2 f3 st W H D : Nat} {x y z b6 b14 b15 : Nat} {ar : Option Addr} {cr : Nat} (hA : Cl w0 a (whd f ws)) (hR : WRws w0 f ws) (hn : wbulk ws ≤ 1050000) (hv : wiresOk ws = true) (hbd : W * H * D ≤ 216) (hx : x < W) (hy : y < H) (hz : z < D) : Mut Try.prog 124 [.int .i64 (x : Int), .int .i64 (y : Int), .int .i64 (z : Int), .pointer (some (adr (some ⟨b6, 0, none⟩) 0)), .pointer (some (adr (some ⟨b14, 0, none⟩) 0)), .pointer (some (adr (some ⟨b15, 0, none⟩) 0))] w0 [⟨some ⟨b6, 0, none⟩, [.slice a ws.length c], 1, 57⟩, ⟨some ⟨b14, 0, none⟩, [.float .f32 f1, .float .f32 f2, .float .f32 f3, .float .f32 st, .int .i64 (W : Int), .int .i64 (H : Int), .int .i64 (D : Int), .slice ar (nd W H x y z) cr], 8, 35⟩, ⟨some ⟨b15, 0, none⟩, [.bool (okK ws (f1, f2, f3) st W H (nd W H x y z))], 1, 4⟩, ⟨ar, vl (fiK ws (f1, f2, f3) st W H (nd W H x y z)), cr * 3, 32⟩] (fun _ : Option Addr × Nat => .tuple #[]) (fun p => [⟨some ⟨b6, 0, none⟩, [.slice a ws.length c], 1, 57⟩, ⟨some ⟨b14, 0, none⟩, [.float .f32 f1, .float .f32 f2, .float .f32 f3, .float .f32 st, .int .i64 (W : Int), .int .i64 (H : Int), .int .i64 (D : Int), .slice p.1 (nd W H x y z + 1) p.2], 8, 35⟩, ⟨some ⟨b15, 0, none⟩, [.bool (okK ws (f1, f2, f3) st W H (nd W H x y z + 1))], 1, 4⟩, ⟨p.1, vl (fiK ws (f1, f2, f3) st W H (nd W H x y z + 1)), p.2 * 3, 32⟩]) := by
  refine Mut.enter Try.func124 rfl Try.ntmps124 (Nat.le_of_ble_eq_true rfl) ?_
  intro F
  have hnd := nd_facts (x := x) hx hy hz hbd
  have hpl := plc_nd (f := (f1, f2, f3)) (st := st) (z := z) hx hy
  refine V.seq ?_
  refine Dr.V.drawR [(0, 5), (1, 5), (2, 5), (3, 5), (4, 5), (5, 5), (6, 5), (7, 5), (8, 5), (9, 5), (10, 5), (11, 5), (12, 5), (13, 2), (14, 3), (15, 5)] [(13, ((fun b => .pointer (some (adr (some ⟨b, 0, none⟩) 0))), (fun b => ⟨some ⟨b, 0, none⟩, [Value.float .f32 0, Value.float .f32 0, Value.float .f32 0], 3, 32⟩)))] [] _ mixed_Fill (by kernel_rfl) (fun w hw => hw) ?_
  refine Dr.SW.p rfl (.inl rfl) rfl (by decide) (yq_load rfl fb57_Fill rfl (by first | exact Sees.root (by assumption) | exact Sees.own (by (try simp only [List.append_assoc, List.cons_append, List.nil_append]); repeat (first | exact List.mem_cons_self | exact List.mem_append_left _ (by assumption) | apply List.mem_cons_of_mem | apply List.mem_append_right)) | exact Sees.root (hR _ (by omega)) | exact Sees.own (RowsIn.mem (by (try simp only [List.append_assoc, List.cons_append, List.nil_append]); repeat (first | exact RowsIn.here | exact RowsIn.last | apply RowsIn.there | apply RowsIn.thereS)) _ (by omega)) | exact Sees.own (WRowsIn.mem (by (try simp only [List.append_assoc, List.cons_append, List.nil_append]); repeat (first | exact WRowsIn.here | exact WRowsIn.last | apply WRowsIn.there | apply WRowsIn.thereS)) _ (by omega))) rfl) ?_
  refine Dr.SW.p rfl (.inl rfl) rfl (by decide) (yq_loadS rfl Try.underlying35 sz35_Fill rfl (by first | exact Sees.root (by assumption) | exact Sees.own (by (try simp only [List.append_assoc, List.cons_append, List.nil_append]); repeat (first | exact List.mem_cons_self | exact List.mem_append_left _ (by assumption) | apply List.mem_cons_of_mem | apply List.mem_append_right)) | exact Sees.root (hR _ (by omega)) | exact Sees.own (RowsIn.mem (by (try simp only [List.append_assoc, List.cons_append, List.nil_append]); repeat (first | exact RowsIn.here | exact RowsIn.last | apply RowsIn.there | apply RowsIn.thereS)) _ (by omega)) | exact Sees.own (WRowsIn.mem (by (try simp only [List.append_assoc, List.cons_append, List.nil_append]); repeat (first | exact WRowsIn.here | exact WRowsIn.last | apply WRowsIn.there | apply WRowsIn.thereS)) _ (by omega))) rfl rfl rfl) ?_
  refine Dr.SW.r rfl (.inl rfl) rfl (by decide) (yr_move rfl rfl) ?_
  refine Dr.SW.r rfl (.inl rfl) rfl (by decide) (yr_ofInt rfl Try.underlying2 Try.underlying22 rfl) ?_
  refine Dr.SW.r rfl (.inl rfl) rfl (by decide) (yr_move rfl rfl) ?_
  refine Dr.SW.r rfl (.inl rfl) rfl (by decide) (yr_ofInt rfl Try.underlying2 Try.underlying22 rfl) ?_
  refine Dr.SW.r rfl (.inl rfl) rfl (by decide) (yr_move rfl rfl) ?_
  refine Dr.SW.r rfl (.inl rfl) rfl (by decide) (yr_ofInt rfl Try.underlying2 Try.underlying22 rfl) ?_
  refine Dr.SW.p rfl (.inl rfl) rfl (by decide) (yq_callf rfl known126_Fill (.cons rfl (.cons rfl (.cons rfl (.cons rfl .nil)))) (fun w hw => c_place)) ?_
  refine Dr.SW.p rfl (.inl rfl) rfl (by decide) (yq_callf rfl known125_Fill (.cons rfl (.cons rfl .nil)) (fun w hw => (by rw [← hpl]; exact c_fieldAll (p1 := (plc (f1, f2, f3) st W H (nd W H x y z)).1) (p2 := (plc (f1, f2, f3) st W H (nd W H x y z)).2.1) (p3 := (plc (f1, f2, f3) st W H (nd W H x y z)).2.2) (by first | exact Sees.root (by assumption) w hw | exact Sees.own (by (try simp only [List.append_assoc, List.cons_append, List.nil_append]); repeat (first | exact List.mem_cons_self | exact List.mem_append_left _ (by assumption) | apply List.mem_cons_of_mem | apply List.mem_append_right)) w hw) (by first | exact WRws.root (by assumption) hw | exact WRws.own (by (try simp only [List.append_assoc, List.cons_append, List.nil_append]); repeat (first | exact WRowsIn.here | exact WRowsIn.last | apply WRowsIn.there | apply WRowsIn.thereS)) hw) (by omega) (by assumption)))) ?_
  refine Dr.SW.r rfl (.inl rfl) rfl (by decide) (yr_move rfl rfl) ?_
  refine Dr.SW.r rfl (.inl rfl) rfl (by decide) (yr_extract rfl rfl rfl (by nofun)) ?_
  refine Dr.SW.r rfl (.inl rfl) rfl (by decide) (yr_extract rfl rfl rfl (by nofun)) ?_
  refine Dr.SW.a rfl rfl rfl (by decide) rfl (fun w0 => (yn_alloc rfl zero32_Fill rfl)) ?_
  intro b9
  refine Dr.SW.s rfl (.inl rfl) rfl (yc_store rfl sz32_Fill rfl rfl (Dr.UpdF.app (by repeat (first | exact UpdF.here | apply UpdF.there | apply UpdF.thereS))) (.inr ⟨rfl, rfl⟩) rfl (by first | exact Nat.le_of_ble_eq_true rfl | simp) (by decide) rfl) ?_
  rintro ⟨⟩
  refine Dr.SW.r rfl (.inl rfl) rfl (by decide) (yr_assign rfl rfl) ?_
  refine Dr.SW.done ?_
  refine Dr.eqO (by simp only [List.append_nil, List.append_assoc, List.cons_append, List.nil_append] <;> rfl) ?_
  refine VE.then_wp ?_
  refine V.seq ?_
  refine V.region ?_
  refine VL.q (.inl rfl) rfl (by decide) (yq_load rfl fb4_Fill rfl (by first | exact Sees.root (by assumption) | exact Sees.own (by repeat (first | exact List.mem_cons_self | exact List.mem_append_left _ (by assumption) | apply List.mem_cons_of_mem | apply List.mem_append_right)) | exact Sees.root (hR _ (by omega)) | exact Sees.own (RowsIn.mem (by repeat (first | exact RowsIn.here | exact RowsIn.last | apply RowsIn.there | apply RowsIn.thereS)) _ (by omega)) | exact Sees.own (WRowsIn.mem (by repeat (first | exact WRowsIn.here | exact WRowsIn.last | apply WRowsIn.there | apply WRowsIn.thereS)) _ (by omega))) rfl) ?_
  refine VL.r (.inl rfl) rfl (by decide) (yr_move rfl rfl) ?_
  refine VX.split 25 _ rfl (fun h1 => ?_) (fun h1 => ?_)
  · skip
    refine VL.r (.inr ⟨_, _, _, rfl, rfl, rfl⟩) rfl (by decide) (yr_move rfl rfl) ?_
    refine VL.r (.inl rfl) rfl (by decide) (yr_pick_t rfl rfl rfl) ?_
    refine VL.s (.inl rfl) rfl (yc_store rfl sz4_Fill rfl rfl (by repeat (first | exact UpdF.here | apply UpdF.there | apply UpdF.thereS)) (.inl ⟨rfl, rfl⟩) rfl (by first | exact Nat.le_of_ble_eq_true rfl | simp) (by decide) rfl) ?_
    rintro ⟨⟩
    refine VL.nil ?_
    refine VE.then_wp ?_
    refine V.region ?_
    refine VL.r (.inl rfl) rfl (by decide) (yr_fieldAddr rfl Try.underlying35 rfl rfl sz33_Fill (by decide) rfl) ?_
    refine VL.q (.inl rfl) rfl (by decide) (yq_load rfl fb33_Fill rfl (by first | exact Sees.root (by assumption) | exact Sees.own (by repeat (first | exact List.mem_cons_self | exact List.mem_append_left _ (by assumption) | apply List.mem_cons_of_mem | apply List.mem_append_right)) | exact Sees.root (hR _ (by omega)) | exact Sees.own (RowsIn.mem (by repeat (first | exact RowsIn.here | exact RowsIn.last | apply RowsIn.there | apply RowsIn.thereS)) _ (by omega)) | exact Sees.own (WRowsIn.mem (by repeat (first | exact WRowsIn.here | exact WRowsIn.last | apply WRowsIn.there | apply WRowsIn.thereS)) _ (by omega))) rfl) ?_
    refine VL.q (.inl rfl) rfl (by decide) (yq_loadS rfl Try.underlying32 sz32_Fill rfl (by first | exact Sees.root (by assumption) | exact Sees.own (by repeat (first | exact List.mem_cons_self | exact List.mem_append_left _ (by assumption) | apply List.mem_cons_of_mem | apply List.mem_append_right)) | exact Sees.root (hR _ (by omega)) | exact Sees.own (RowsIn.mem (by repeat (first | exact RowsIn.here | exact RowsIn.last | apply RowsIn.there | apply RowsIn.thereS)) _ (by omega)) | exact Sees.own (WRowsIn.mem (by repeat (first | exact WRowsIn.here | exact WRowsIn.last | apply WRowsIn.there | apply WRowsIn.thereS)) _ (by omega))) rfl rfl rfl) ?_
    refine VL.new1 (.inl rfl) rfl (by decide) (yn_buildSlice rfl Try.underlying33 elt32_Fill rfl (by decide) (.cons rfl .nil) (by simp) rfl rfl) ?_
    intro b31
    refine VL.c (.inl rfl) rfl (by decide) (yc_appendz 3 rfl rfl Try.underlying33 elt32_Fill rfl rfl (by repeat (first | exact UpdF.here | apply UpdF.there | apply UpdF.thereS)) (by first | exact Sees.root (by assumption) | exact Sees.own (by repeat (first | exact List.mem_cons_self | exact List.mem_append_left _ (by assumption) | apply List.mem_cons_of_mem | apply List.mem_append_right)) | exact Sees.root (hR _ (by omega)) | exact Sees.own (RowsIn.mem (by repeat (first | exact RowsIn.here | exact RowsIn.last | apply RowsIn.there | apply RowsIn.thereS)) _ (by omega)) | exact Sees.own (WRowsIn.mem (by repeat (first | exact WRowsIn.here | exact WRowsIn.last | apply WRowsIn.there | apply WRowsIn.thereS)) _ (by omega))) rfl (by rw [vl_length, fiK_length]) rfl (vl_scal _) rfl (by omega) (by omega)) ?_
    rintro ⟨a32, c32⟩
    refine VL.r (.inl rfl) rfl (by decide) (yr_fieldAddr rfl Try.underlying35 rfl rfl sz33_Fill (by decide) rfl) ?_
    refine VL.s (.inl rfl) rfl (yc_store rfl sz33_Fill rfl rfl (by repeat (first | exact UpdF.here | apply UpdF.there | apply UpdF.thereS)) (.inl ⟨rfl, rfl⟩) rfl (by first | exact Nat.le_of_ble_eq_true rfl | simp) (by decide) rfl) ?_
    rintro ⟨⟩
    refine VL.nil ?_
    refine VE.fall ?_
    refine ret0 rfl (fun w1 hw => ?_)
    have h8 := hw.sub ((List.sublist_cons_self _ _).trans (List.sublist_cons_self _ _))
    refine ⟨(a32, c32), rfl, ?_⟩
    rw [← fiK_snoc]
    first
      | (have h7 : okK ws (f1, f2, f3) st W H (nd W H x y z + 1) = okN ws (f1, f2, f3) st W H (nd W H x y z) := by rw [okK, show okK ws (f1, f2, f3) st W H (nd W H x y z) = true by assumption, Bool.true_and]
         rw [h7]; exact h8)
      | (have h7 : okK ws (f1, f2, f3) st W H (nd W H x y z + 1) = false := by rw [okK, show okK ws (f1, f2, f3) st W H (nd W H x y z) = false by assumption, Bool.false_and]
         rw [h7]; exact h8)
  · skip
    refine VL.no rfl rfl rfl rfl rfl (by decide) ?_
    refine VL.r (.inl rfl) rfl (by decide) (yr_pick_f (u := .bool false) rfl rfl rfl) ?_
    refine VL.s (.inl rfl) rfl (yc_store rfl sz4_Fill rfl rfl (by repeat (first | exact UpdF.here | apply UpdF.there | apply UpdF.thereS)) (.inl ⟨rfl, rfl⟩) rfl (by first | exact Nat.le_of_ble_eq_true rfl | simp) (by decide) rfl) ?_
    rintro ⟨⟩
    refine VL.nil ?_
    refine VE.then_wp ?_
    refine V.region ?_
    refine VL.r (.inl rfl) rfl (by decide) (yr_fieldAddr rfl Try.underlying35 rfl rfl sz33_Fill (by decide) rfl) ?_
    refine VL.q (.inl rfl) rfl (by decide) (yq_load rfl fb33_Fill rfl (by first | exact Sees.root (by assumption) | exact Sees.own (by repeat (first | exact List.mem_cons_self | exact List.mem_append_left _ (by assumption) | apply List.mem_cons_of_mem | apply List.mem_append_right)) | exact Sees.root (hR _ (by omega)) | exact Sees.own (RowsIn.mem (by repeat (first | exact RowsIn.here | exact RowsIn.last | apply RowsIn.there | apply RowsIn.thereS)) _ (by omega)) | exact Sees.own (WRowsIn.mem (by repeat (first | exact WRowsIn.here | exact WRowsIn.last | apply WRowsIn.there | apply WRowsIn.thereS)) _ (by omega))) rfl) ?_
    refine VL.q (.inl rfl) rfl (by decide) (yq_loadS rfl Try.underlying32 sz32_Fill rfl (by first | exact Sees.root (by assumption) | exact Sees.own (by repeat (first | exact List.mem_cons_self | exact List.mem_append_left _ (by assumption) | apply List.mem_cons_of_mem | apply List.mem_append_right)) | exact Sees.root (hR _ (by omega)) | exact Sees.own (RowsIn.mem (by repeat (first | exact RowsIn.here | exact RowsIn.last | apply RowsIn.there | apply RowsIn.thereS)) _ (by omega)) | exact Sees.own (WRowsIn.mem (by repeat (first | exact WRowsIn.here | exact WRowsIn.last | apply WRowsIn.there | apply WRowsIn.thereS)) _ (by omega))) rfl rfl rfl) ?_
    refine VL.new1 (.inl rfl) rfl (by decide) (yn_buildSlice rfl Try.underlying33 elt32_Fill rfl (by decide) (.cons rfl .nil) (by simp) rfl rfl) ?_
    intro b31
    refine VL.c (.inl rfl) rfl (by decide) (yc_appendz 3 rfl rfl Try.underlying33 elt32_Fill rfl rfl (by repeat (first | exact UpdF.here | apply UpdF.there | apply UpdF.thereS)) (by first | exact Sees.root (by assumption) | exact Sees.own (by repeat (first | exact List.mem_cons_self | exact List.mem_append_left _ (by assumption) | apply List.mem_cons_of_mem | apply List.mem_append_right)) | exact Sees.root (hR _ (by omega)) | exact Sees.own (RowsIn.mem (by repeat (first | exact RowsIn.here | exact RowsIn.last | apply RowsIn.there | apply RowsIn.thereS)) _ (by omega)) | exact Sees.own (WRowsIn.mem (by repeat (first | exact WRowsIn.here | exact WRowsIn.last | apply WRowsIn.there | apply WRowsIn.thereS)) _ (by omega))) rfl (by rw [vl_length, fiK_length]) rfl (vl_scal _) rfl (by omega) (by omega)) ?_
    rintro ⟨a32, c32⟩
    refine VL.r (.inl rfl) rfl (by decide) (yr_fieldAddr rfl Try.underlying35 rfl rfl sz33_Fill (by decide) rfl) ?_
    refine VL.s (.inl rfl) rfl (yc_store rfl sz33_Fill rfl rfl (by repeat (first | exact UpdF.here | apply UpdF.there | apply UpdF.thereS)) (.inl ⟨rfl, rfl⟩) rfl (by first | exact Nat.le_of_ble_eq_true rfl | simp) (by decide) rfl) ?_
    rintro ⟨⟩
    refine VL.nil ?_
    refine VE.fall ?_
    refine ret0 rfl (fun w1 hw => ?_)
    have h8 := hw.sub ((List.sublist_cons_self _ _).trans (List.sublist_cons_self _ _))
    refine ⟨(a32, c32), rfl, ?_⟩
    rw [← fiK_snoc]
    first
      | (have h7 : okK ws (f1, f2, f3) st W H (nd W H x y z + 1) = okN ws (f1, f2, f3) st W H (nd W H x y z) := by rw [okK, show okK ws (f1, f2, f3) st W H (nd W H x y z) = true by assumption, Bool.true_and]
         rw [h7]; exact h8)
      | (have h7 : okK ws (f1, f2, f3) st W H (nd W H x y z + 1) = false := by rw [okK, show okK ws (f1, f2, f3) st W H (nd W H x y z) = false by assumption, Bool.false_and]
         rw [h7]; exact h8)

theorem c_implFill {w : World} {a : Option Addr} {c : Nat} {f : Nat → Option Addr × Nat} {ws : List Wr} {f1 f2 f3 st : Nat} {wi hi de : Int} (hA : Cl w a (whd f ws)) (hR : WRws w f ws) (hn : wbulk ws ≤ 1050000) : New Try.prog 47 [.slice a ws.length c, vv (f1, f2, f3), .float .f32 st, .int .i64 wi, .int .i64 hi, .int .i64 de] w (fun p : Option Addr × Nat => .tuple #[.agg #[.float .f32 (fiF ws (f1, f2, f3) st wi hi de).1, .float .f32 (fiF ws (f1, f2, f3) st wi hi de).2.1, .float .f32 (fiF ws (f1, f2, f3) st wi hi de).2.2, .float .f32 (fiS ws (f1, f2, f3) st wi hi de), .int .i64 (fiI ws (f1, f2, f3) st wi hi de wi), .int .i64 (fiI ws (f1, f2, f3) st wi hi de hi), .int .i64 (fiI ws (f1, f2, f3) st wi hi de de), .slice p.1 (fiL ws (f1, f2, f3) st wi hi de).length p.2], .bool (fiOk ws (f1, f2, f3) st wi hi de)]) (fun p => [⟨p.1, vl (fiL ws (f1, f2, f3) st wi hi de), p.2 * 3, 32⟩]) := by
  refine New.enter Try.func47 rfl Try.ntmps47 (Nat.le_of_ble_eq_true rfl) ?_
  have hwl : ws.length ≤ wbulk ws := by unfold wbulk; omega
  have hrw : ∀ k, k < ws.length → (ws.getD k zw).1.length ≤ 1050000 := fun k hk => by have := wbulk_row hk; omega
  refine V.seq ?_
  refine V.region ?_
  refine VL.new1 (.inl rfl) rfl (by decide) (yn_box rfl rfl (.inl ⟨rfl, rfl⟩)) ?_
  intro b6
  refine VL.new1 (.inl rfl) rfl (by decide) (yn_box rfl rfl (.inr ⟨rfl, rfl⟩)) ?_
  intro b7
  refine VL.new1 (.inl rfl) rfl (by decide) (yn_alloc rfl zero35_Fill rfl) ?_
  intro b12
  refine VL.r (.inl rfl) rfl (by decide) (yr_assign (u := .bool false) rfl rfl) ?_
  refine VL.nil ?_
  refine VE.then_wp ?_
  refine V.seq ?_
  refine V.region ?_
  refine VL.q (.inl rfl) rfl (by decide) (yq_loadS rfl Try.underlying32 sz32_Fill rfl (by first | exact Sees.root (by assumption) | exact Sees.own (by repeat (first | exact List.mem_cons_self | exact List.mem_append_left _ (by assumption) | apply List.mem_cons_of_mem | apply List.mem_append_right)) | exact Sees.root (hR _ (by omega)) | exact Sees.own (RowsIn.mem (by repeat (first | exact RowsIn.here | exact RowsIn.last | apply RowsIn.there | apply RowsIn.thereS)) _ (by omega)) | exact Sees.own (WRowsIn.mem (by repeat (first | exact WRowsIn.here | exact WRowsIn.last | apply WRowsIn.there | apply WRowsIn.thereS)) _ (by omega))) rfl rfl rfl) ?_
  refine VL.r (.inl rfl) rfl (by decide) (yr_move rfl rfl) ?_
  refine VL.r (.inl rfl) rfl (by decide) (yr_move rfl rfl) ?_
  refine VL.r (.inl rfl) rfl (by decide) (yr_move rfl rfl) ?_
  refine VL.r (.inl rfl) rfl (by decide) (yr_move rfl rfl) ?_
  refine VL.r (.inl rfl) rfl (by decide) (yr_build rfl lay35_Fill rfl (.cons rfl (.cons rfl (.cons rfl (.cons rfl (.cons rfl .nil))))) (by first | (simp; done) | (simp [vv]; done) | (simp [cn, cn1, cn0]; done)) rfl) ?_
  refine VL.new1 (.inl rfl) rfl (by decide) (yn_alloc rfl zero35_Fill rfl) ?_
  intro b14
  refine VL.s (.inl rfl) rfl (yc_store rfl sz35_Fill rfl rfl (by repeat (first | exact UpdF.here | apply UpdF.there | apply UpdF.thereS)) (.inr ⟨rfl, rfl⟩) rfl (by first | exact Nat.le_of_ble_eq_true rfl | simp) (by decide) rfl) ?_
  rintro ⟨⟩
  refine VL.nil ?_
  refine VE.then_wp ?_
  refine V.seq ?_
  refine V.seq ?_
  refine V.region ?_
  refine VL.q (.inl rfl) rfl (by decide) (yq_load rfl fb57_Fill rfl (by first | exact Sees.root (by assumption) | exact Sees.own (by repeat (first | exact List.mem_cons_self | exact List.mem_append_left _ (by assumption) | apply List.mem_cons_of_mem | apply List.mem_append_right)) | exact Sees.root (hR _ (by omega)) | exact Sees.own (RowsIn.mem (by repeat (first | exact RowsIn.here | exact RowsIn.last | apply RowsIn.there | apply RowsIn.thereS)) _ (by omega)) | exact Sees.own (WRowsIn.mem (by repeat (first | exact WRowsIn.here | exact WRowsIn.last | apply WRowsIn.there | apply WRowsIn.thereS)) _ (by omega))) rfl) ?_
  refine VL.q (.inl rfl) rfl (by decide) (yq_callf rfl known112_Fill (.cons rfl .nil) (fun w hw => (c_implAre (by first | exact Sees.root (by assumption) w hw | exact Sees.own (by repeat (first | exact List.mem_cons_self | exact List.mem_append_left _ (by assumption) | apply List.mem_cons_of_mem | apply List.mem_append_right)) w hw) (by first | exact WRws.root (by assumption) hw | exact WRws.own (by repeat (first | exact WRowsIn.here | exact WRowsIn.last | apply WRowsIn.there | apply WRowsIn.thereS)) hw) (by omega)))) ?_
  refine VL.r (.inl rfl) rfl (by decide) (yr_not rfl rfl) ?_
  refine VL.r (.inl rfl) rfl (by decide) (yr_move rfl rfl) ?_
  refine VX.split 25 _ rfl (fun h1 => ?_) (fun h1 => ?_)
  · skip
    replace h1 := bnot_t h1
    refine VL.no rfl rfl rfl rfl rfl (by decide) ?_
    refine VL.no rfl rfl rfl rfl rfl (by decide) ?_
    refine VL.no rfl rfl rfl rfl rfl (by decide) ?_
    refine VL.r (.inl rfl) rfl (by decide) (yr_pick_t (u := .bool true) rfl rfl rfl) ?_
    refine VL.r (.inl rfl) rfl (by decide) (yr_move rfl rfl) ?_
    refine VL.no rfl rfl rfl rfl rfl (by decide) ?_
    refine VL.no rfl rfl rfl rfl rfl (by decide) ?_
    refine VL.no rfl rfl rfl rfl rfl (by decide) ?_
    refine VL.r (.inl rfl) rfl (by decide) (yr_pick_t (u := .bool true) rfl rfl rfl) ?_
    refine VL.r (.inl rfl) rfl (by decide) (yr_move rfl rfl) ?_
    refine VL.no rfl rfl rfl rfl rfl (by decide) ?_
    refine VL.no rfl rfl rfl rfl rfl (by decide) ?_
    refine VL.no rfl rfl rfl rfl rfl (by decide) ?_
    refine VL.r (.inl rfl) rfl (by decide) (yr_pick_t (u := .bool true) rfl rfl rfl) ?_
    refine VL.r (.inl rfl) rfl (by decide) (yr_move rfl rfl) ?_
    refine VL.no rfl rfl rfl rfl rfl (by decide) ?_
    refine VL.no rfl rfl rfl rfl rfl (by decide) ?_
    refine VL.no rfl rfl rfl rfl rfl (by decide) ?_
    refine VL.no rfl rfl rfl rfl rfl (by decide) ?_
    refine VL.no rfl rfl rfl rfl rfl (by decide) ?_
    refine VL.no rfl rfl rfl rfl rfl (by decide) ?_
    refine VL.r (.inl rfl) rfl (by decide) (yr_pick_t (u := .bool true) rfl rfl rfl) ?_
    refine VL.nil ?_
    refine VE.then_wp ?_
    refine V.condT rfl ?_
    refine V.seq ?_
    refine V.region ?_
    refine VL.r (.inl rfl) rfl (by decide) (yr_build rfl lay35_Fill rfl .nil (by first | (simp; done) | (simp [vv]; done) | (simp [cn, cn1, cn0]; done)) rfl) ?_
    refine VL.s (.inl rfl) rfl (yc_store rfl sz35_Fill rfl rfl (by repeat (first | exact UpdF.here | apply UpdF.there | apply UpdF.thereS)) (.inr ⟨rfl, rfl⟩) rfl (by first | exact Nat.le_of_ble_eq_true rfl | simp) (by decide) rfl) ?_
    rintro ⟨⟩
    refine VL.r (.inl rfl) rfl (by decide) (yr_assign (u := .bool false) rfl rfl) ?_
    refine VL.nil ?_
    refine VE.then_wp ?_
    refine V.ret ?_
    refine VE.then_ret ?_
    refine retN rfl (.cons (rv_cellS rfl Try.underlying35 sz35_Fill (by first | exact Sees.root (by assumption) | exact Sees.own (by repeat (first | exact List.mem_cons_self | exact List.mem_append_left _ (by assumption) | apply List.mem_cons_of_mem | apply List.mem_append_right)) | exact Sees.root (hR _ (by omega)) | exact Sees.own (RowsIn.mem (by repeat (first | exact RowsIn.here | exact RowsIn.last | apply RowsIn.there | apply RowsIn.thereS)) _ (by omega)) | exact Sees.own (WRowsIn.mem (by repeat (first | exact WRowsIn.here | exact WRowsIn.last | apply WRowsIn.there | apply WRowsIn.thereS)) _ (by omega))) rfl rfl rfl) (.cons (rv_tmp rfl (by nofun)) .nil)) (by nofun) (fun w1 hw => ?_)
    first
      | (obtain ⟨m1, m2, _, _⟩ := meshOk_is hm
         have hk9 : okK ws (f1, f2, f3) st (W : Int).toNat (H : Int).toNat ((W : Int).toNat * (H : Int).toNat * (D : Int).toNat) = true := by assumption
         ((have hs : fiOk ws (f1, f2, f3) st (W : Int) (H : Int) (D : Int) = true := fiOk_yes (by assumption) m1 m2 (by assumption) (by assumption)); exact ⟨(p51.1, p51.2), by simp only [fiF_yes hs, fiS_yes hs, fiI_yes hs, fiL_yes hs, hs, fiK_length]; rfl, by rw [fiL_yes hs]; exact (hw.pick (by apply Pick.one; repeat (first | exact Rem.here | apply Rem.there))).out1⟩))
      | ((have hs : fiOk ws (f1, f2, f3) st (W : Int) (H : Int) (D : Int) = false := by first | exact fiOk_no5 (by assumption)); exact ⟨(none, 0), by simp only [fiF_no hs, fiS_no hs, fiI_no hs, fiL_no hs, hs]; rfl, hw.below, by rw [fiL_no hs]; simp [vl, Ent.at], List.pairwise_singleton _ _⟩)
      | ((have hs : fiOk ws (f1, f2, f3) st wi hi de = false := by first | exact fiOk_no1 (by assumption) | exact fiOk_no2 (by assumption) | exact fiOk_no3 (by assumption) | exact fiOk_no4 (by assumption) | exact fiOk_no4 (szOk_no1 (by assumption)).symm | exact fiOk_no4 (szOk_no2 (by assumption)).symm | exact fiOk_no4 (szOk_no3 (by assumption)).symm | exact fiOk_no4 (szOk_no4 (by omega))); exact ⟨(none, 0), by simp only [fiF_no hs, fiS_no hs, fiI_no hs, fiL_no hs, hs]; rfl, hw.below, by rw [fiL_no hs]; simp [vl, Ent.at], List.pairwise_singleton _ _⟩)
      | (have hm9 : (fin3 (f1, f2, f3) && above st) = false := by
           cases h8 : fin3 (f1, f2, f3)
           · rfl
           · cases h9 : above st
             · rfl
             · exfalso
               have := meshOk_last (n := W * H * D) h8 h9 hsz
               rw [hm] at this
               have e9 : icmp .eql ((W * H * D : Nat) : Int) ((W : Int) * (H : Int) * (D : Int)) = true := by show (_ == _) = true; rw [beq_iff_eq]; norm_cast
               rw [e9] at this; cases this
         rcases Bool.and_eq_false_iff.1 hm9 with h9 | h9
         · ((have hs : fiOk ws (f1, f2, f3) st (W : Int) (H : Int) (D : Int) = false := by first | exact fiOk_no2 h9); exact ⟨(none, 0), by simp only [fiF_no hs, fiS_no hs, fiI_no hs, fiL_no hs, hs]; rfl, hw.below, by rw [fiL_no hs]; simp [vl, Ent.at], List.pairwise_singleton _ _⟩)
         · ((have hs : fiOk ws (f1, f2, f3) st (W : Int) (H : Int) (D : Int) = false := by first | exact fiOk_no3 h9); exact ⟨(none, 0), by simp only [fiF_no hs, fiS_no hs, fiI_no hs, fiL_no hs, hs]; rfl, hw.below, by rw [fiL_no hs]; simp [vl, Ent.at], List.pairwise_singleton _ _⟩))
  · skip
    replace h1 := bnot_f h1
    refine VL.r (.inr ⟨_, _, _, rfl, rfl, rfl⟩) rfl (by decide) (yr_move rfl rfl) ?_
    refine VL.q (.inr ⟨_, _, _, rfl, rfl, rfl⟩) rfl (by decide) (yq_callf rfl known123_Fill (.cons rfl .nil) (fun w hw => c_isMS)) ?_
    refine VL.r (.inr ⟨_, _, _, rfl, rfl, rfl⟩) rfl (by decide) (yr_not rfl rfl) ?_
    refine VL.r (.inl rfl) rfl (by decide) (yr_pick_f rfl rfl rfl) ?_
    refine VL.r (.inl rfl) rfl (by decide) (yr_move rfl rfl) ?_
    refine VX.split 30 _ rfl (fun h3 => ?_) (fun h3 => ?_)
    · skip
      replace h3 := bnot_t h3
      refine VL.no rfl rfl rfl rfl rfl (by decide) ?_
      refine VL.no rfl rfl rfl rfl rfl (by decide) ?_
      refine VL.no rfl rfl rfl rfl rfl (by decide) ?_
      refine VL.r (.inl rfl) rfl (by decide) (yr_pick_t (u := .bool true) rfl rfl rfl) ?_
      refine VL.r (.inl rfl) rfl (by decide) (yr_move rfl rfl) ?_
      refine VL.no rfl rfl rfl rfl rfl (by decide) ?_
      refine VL.no rfl rfl rfl rfl rfl (by decide) ?_
      refine VL.no rfl rfl rfl rfl rfl (by decide) ?_
      refine VL.r (.inl rfl) rfl (by decide) (yr_pick_t (u := .bool true) rfl rfl rfl) ?_
      refine VL.r (.inl rfl) rfl (by decide) (yr_move rfl rfl) ?_
      refine VL.no rfl rfl rfl rfl rfl (by decide) ?_
      refine VL.no rfl rfl rfl rfl rfl (by decide) ?_
      refine VL.no rfl rfl rfl rfl rfl (by decide) ?_
      refine VL.no rfl rfl rfl rfl rfl (by decide) ?_
      refine VL.no rfl rfl rfl rfl rfl (by decide) ?_
      refine VL.no rfl rfl rfl rfl rfl (by decide) ?_
      refine VL.r (.inl rfl) rfl (by decide) (yr_pick_t (u := .bool true) rfl rfl rfl) ?_
      refine VL.nil ?_
      refine VE.then_wp ?_
      refine V.condT rfl ?_
      refine V.seq ?_
      refine V.region ?_
      refine VL.r (.inl rfl) rfl (by decide) (yr_build rfl lay35_Fill rfl .nil (by first | (simp; done) | (simp [vv]; done) | (simp [cn, cn1, cn0]; done)) rfl) ?_
      refine VL.s (.inl rfl) rfl (yc_store rfl sz35_Fill rfl rfl (by repeat (first | exact UpdF.here | apply UpdF.there | apply UpdF.thereS)) (.inr ⟨rfl, rfl⟩) rfl (by first | exact Nat.le_of_ble_eq_true rfl | simp) (by decide) rfl) ?_
      rintro ⟨⟩
      refine VL.r (.inl rfl) rfl (by decide) (yr_assign (u := .bool false) rfl rfl) ?_
      refine VL.nil ?_
      refine VE.then_wp ?_
      refine V.ret ?_
      refine VE.then_ret ?_
      refine retN rfl (.cons (rv_cellS rfl Try.underlying35 sz35_Fill (by first | exact Sees.root (by assumption) | exact Sees.own (by repeat (first | exact List.mem_cons_self | exact List.mem_append_left _ (by assumption) | apply List.mem_cons_of_mem | apply List.mem_append_right)) | exact Sees.root (hR _ (by omega)) | exact Sees.own (RowsIn.mem (by repeat (first | exact RowsIn.here | exact RowsIn.last | apply RowsIn.there | apply RowsIn.thereS)) _ (by omega)) | exact Sees.own (WRowsIn.mem (by repeat (first | exact WRowsIn.here | exact WRowsIn.last | apply WRowsIn.there | apply WRowsIn.thereS)) _ (by omega))) rfl rfl rfl) (.cons (rv_tmp rfl (by nofun)) .nil)) (by nofun) (fun w1 hw => ?_)
      first
        | (obtain ⟨m1, m2, _, _⟩ := meshOk_is hm
           have hk9 : okK ws (f1, f2, f3) st (W : Int).toNat (H : Int).toNat ((W : Int).toNat * (H : Int).toNat * (D : Int).toNat) = true := by assumption
           ((have hs : fiOk ws (f1, f2, f3) st (W : Int) (H : Int) (D : Int) = true := fiOk_yes (by assumption) m1 m2 (by assumption) (by assumption)); exact ⟨(p51.1, p51.2), by simp only [fiF_yes hs, fiS_yes hs, fiI_yes hs, fiL_yes hs, hs, fiK_length]; rfl, by rw [fiL_yes hs]; exact (hw.pick (by apply Pick.one; repeat (first | exact Rem.here | apply Rem.there))).out1⟩))
        | ((have hs : fiOk ws (f1, f2, f3) st (W : Int) (H : Int) (D : Int) = false := by first | exact fiOk_no5 (by assumption)); exact ⟨(none, 0), by simp only [fiF_no hs, fiS_no hs, fiI_no hs, fiL_no hs, hs]; rfl, hw.below, by rw [fiL_no hs]; simp [vl, Ent.at], List.pairwise_singleton _ _⟩)
        | ((have hs : fiOk ws (f1, f2, f3) st wi hi de = false := by first | exact fiOk_no1 (by assumption) | exact fiOk_no2 (by assumption) | exact fiOk_no3 (by assumption) | exact fiOk_no4 (by assumption) | exact fiOk_no4 (szOk_no1 (by assumption)).symm | exact fiOk_no4 (szOk_no2 (by assumption)).symm | exact fiOk_no4 (szOk_no3 (by assumption)).symm | exact fiOk_no4 (szOk_no4 (by omega))); exact ⟨(none, 0), by simp only [fiF_no hs, fiS_no hs, fiI_no hs, fiL_no hs, hs]; rfl, hw.below, by rw [fiL_no hs]; simp [vl, Ent.at], List.pairwise_singleton _ _⟩)
        | (have hm9 : (fin3 (f1, f2, f3) && above st) = false := by
             cases h8 : fin3 (f1, f2, f3)
             · rfl
             · cases h9 : above st
               · rfl
               · exfalso
                 have := meshOk_last (n := W * H * D) h8 h9 hsz
                 rw [hm] at this
                 have e9 : icmp .eql ((W * H * D : Nat) : Int) ((W : Int) * (H : Int) * (D : Int)) = true := by show (_ == _) = true; rw [beq_iff_eq]; norm_cast
                 rw [e9] at this; cases this
           rcases Bool.and_eq_false_iff.1 hm9 with h9 | h9
           · ((have hs : fiOk ws (f1, f2, f3) st (W : Int) (H : Int) (D : Int) = false := by first | exact fiOk_no2 h9); exact ⟨(none, 0), by simp only [fiF_no hs, fiS_no hs, fiI_no hs, fiL_no hs, hs]; rfl, hw.below, by rw [fiL_no hs]; simp [vl, Ent.at], List.pairwise_singleton _ _⟩)
           · ((have hs : fiOk ws (f1, f2, f3) st (W : Int) (H : Int) (D : Int) = false := by first | exact fiOk_no3 h9); exact ⟨(none, 0), by simp only [fiF_no hs, fiS_no hs, fiI_no hs, fiL_no hs, hs]; rfl, hw.below, by rw [fiL_no hs]; simp [vl, Ent.at], List.pairwise_singleton _ _⟩))
    · skip
      replace h3 := bnot_f h3
      refine VL.r (.inr ⟨_, _, _, rfl, rfl, rfl⟩) rfl (by decide) (yr_move rfl rfl) ?_
      refine VL.q (.inr ⟨_, _, _, rfl, rfl, rfl⟩) rfl (by decide) (yq_callf rfl known123_Fill (.cons rfl .nil) (fun w hw => c_isMS)) ?_
      refine VL.r (.inr ⟨_, _, _, rfl, rfl, rfl⟩) rfl (by decide) (yr_not rfl rfl) ?_
      refine VL.r (.inl rfl) rfl (by decide) (yr_pick_f rfl rfl rfl) ?_
      refine VL.r (.inl rfl) rfl (by decide) (yr_move rfl rfl) ?_
      refine VX.split 35 _ rfl (fun h5 => ?_) (fun h5 => ?_)
      · skip
        replace h5 := bnot_t h5
        refine VL.no rfl rfl rfl rfl rfl (by decide) ?_
        refine VL.no rfl rfl rfl rfl rfl (by decide) ?_
        refine VL.no rfl rfl rfl rfl rfl (by decide) ?_
        refine VL.r (.inl rfl) rfl (by decide) (yr_pick_t (u := .bool true) rfl rfl rfl) ?_
        refine VL.r (.inl rfl) rfl (by decide) (yr_move rfl rfl) ?_
        refine VL.no rfl rfl rfl rfl rfl (by decide) ?_
        refine VL.no rfl rfl rfl rfl rfl (by decide) ?_
        refine VL.no rfl rfl rfl rfl rfl (by decide) ?_
        refine VL.no rfl rfl rfl rfl rfl (by decide) ?_
        refine VL.no rfl rfl rfl rfl rfl (by decide) ?_
        refine VL.no rfl rfl rfl rfl rfl (by decide) ?_
        refine VL.r (.inl rfl) rfl (by decide) (yr_pick_t (u := .bool true) rfl rfl rfl) ?_
        refine VL.nil ?_
        refine VE.then_wp ?_
        refine V.condT rfl ?_
        refine V.seq ?_
        refine V.region ?_
        refine VL.r (.inl rfl) rfl (by decide) (yr_build rfl lay35_Fill rfl .nil (by first | (simp; done) | (simp [vv]; done) | (simp [cn, cn1, cn0]; done)) rfl) ?_
        refine VL.s (.inl rfl) rfl (yc_store rfl sz35_Fill rfl rfl (by repeat (first | exact UpdF.here | apply UpdF.there | apply UpdF.thereS)) (.inr ⟨rfl, rfl⟩) rfl (by first | exact Nat.le_of_ble_eq_true rfl | simp) (by decide) rfl) ?_
        rintro ⟨⟩
        refine VL.r (.inl rfl) rfl (by decide) (yr_assign (u := .bool false) rfl rfl) ?_
        refine VL.nil ?_
        refine VE.then_wp ?_
        refine V.ret ?_
        refine VE.then_ret ?_
        refine retN rfl (.cons (rv_cellS rfl Try.underlying35 sz35_Fill (by first | exact Sees.root (by assumption) | exact Sees.own (by repeat (first | exact List.mem_cons_self | exact List.mem_append_left _ (by assumption) | apply List.mem_cons_of_mem | apply List.mem_append_right)) | exact Sees.root (hR _ (by omega)) | exact Sees.own (RowsIn.mem (by repeat (first | exact RowsIn.here | exact RowsIn.last | apply RowsIn.there | apply RowsIn.thereS)) _ (by omega)) | exact Sees.own (WRowsIn.mem (by repeat (first | exact WRowsIn.here | exact WRowsIn.last | apply WRowsIn.there | apply WRowsIn.thereS)) _ (by omega))) rfl rfl rfl) (.cons (rv_tmp rfl (by nofun)) .nil)) (by nofun) (fun w1 hw => ?_)
        first
          | (obtain ⟨m1, m2, _, _⟩ := meshOk_is hm
             have hk9 : okK ws (f1, f2, f3) st (W : Int).toNat (H : Int).toNat ((W : Int).toNat * (H : Int).toNat * (D : Int).toNat) = true := by assumption
             ((have hs : fiOk ws (f1, f2, f3) st (W : Int) (H : Int) (D : Int) = true := fiOk_yes (by assumption) m1 m2 (by assumption) (by assumption)); exact ⟨(p51.1, p51.2), by simp only [fiF_yes hs, fiS_yes hs, fiI_yes hs, fiL_yes hs, hs, fiK_length]; rfl, by rw [fiL_yes hs]; exact (hw.pick (by apply Pick.one; repeat (first | exact Rem.here | apply Rem.there))).out1⟩))
          | ((have hs : fiOk ws (f1, f2, f3) st (W : Int) (H : Int) (D : Int) = false := by first | exact fiOk_no5 (by assumption)); exact ⟨(none, 0), by simp only [fiF_no hs, fiS_no hs, fiI_no hs, fiL_no hs, hs]; rfl, hw.below, by rw [fiL_no hs]; simp [vl, Ent.at], List.pairwise_singleton _ _⟩)
          | ((have hs : fiOk ws (f1, f2, f3) st wi hi de = false := by first | exact fiOk_no1 (by assumption) | exact fiOk_no2 (by assumption) | exact fiOk_no3 (by assumption) | exact fiOk_no4 (by assumption) | exact fiOk_no4 (szOk_no1 (by assumption)).symm | exact fiOk_no4 (szOk_no2 (by assumption)).symm | exact fiOk_no4 (szOk_no3 (by assumption)).symm | exact fiOk_no4 (szOk_no4 (by omega))); exact ⟨(none, 0), by simp only [fiF_no hs, fiS_no hs, fiI_no hs, fiL_no hs, hs]; rfl, hw.below, by rw [fiL_no hs]; simp [vl, Ent.at], List.pairwise_singleton _ _⟩)
          | (have hm9 : (fin3 (f1, f2, f3) && above st) = false := by
               cases h8 : fin3 (f1, f2, f3)
               · rfl
               · cases h9 : above st
                 · rfl
                 · exfalso
                   have := meshOk_last (n := W * H * D) h8 h9 hsz
                   rw [hm] at this
                   have e9 : icmp .eql ((W * H * D : Nat) : Int) ((W : Int) * (H : Int) * (D : Int)) = true := by show (_ == _) = true; rw [beq_iff_eq]; norm_cast
                   rw [e9] at this; cases this
             rcases Bool.and_eq_false_iff.1 hm9 with h9 | h9
             · ((have hs : fiOk ws (f1, f2, f3) st (W : Int) (H : Int) (D : Int) = false := by first | exact fiOk_no2 h9); exact ⟨(none, 0), by simp only [fiF_no hs, fiS_no hs, fiI_no hs, fiL_no hs, hs]; rfl, hw.below, by rw [fiL_no hs]; simp [vl, Ent.at], List.pairwise_singleton _ _⟩)
             · ((have hs : fiOk ws (f1, f2, f3) st (W : Int) (H : Int) (D : Int) = false := by first | exact fiOk_no3 h9); exact ⟨(none, 0), by simp only [fiF_no hs, fiS_no hs, fiI_no hs, fiL_no hs, hs]; rfl, hw.below, by rw [fiL_no hs]; simp [vl, Ent.at], List.pairwise_singleton _ _⟩))
      · skip
        replace h5 := bnot_f h5
        refine VL.r (.inr ⟨_, _, _, rfl, rfl, rfl⟩) rfl (by decide) (yr_move rfl rfl) ?_
        refine VL.q (.inr ⟨_, _, _, rfl, rfl, rfl⟩) rfl (by decide) (yq_callf rfl known123_Fill (.cons rfl .nil) (fun w hw => c_isMS)) ?_
        refine VL.r (.inr ⟨_, _, _, rfl, rfl, rfl⟩) rfl (by decide) (yr_not rfl rfl) ?_
        refine VL.r (.inl rfl) rfl (by decide) (yr_pick_f rfl rfl rfl) ?_
        refine VL.r (.inl rfl) rfl (by decide) (yr_move rfl rfl) ?_
        refine VX.split 40 _ rfl (fun h7 => ?_) (fun h7 => ?_)
        · skip
          replace h7 := bnot_t h7
          refine VL.no rfl rfl rfl rfl rfl (by decide) ?_
          refine VL.no rfl rfl rfl rfl rfl (by decide) ?_
          refine VL.no rfl rfl rfl rfl rfl (by decide) ?_
          refine VL.no rfl rfl rfl rfl rfl (by decide) ?_
          refine VL.no rfl rfl rfl rfl rfl (by decide) ?_
          refine VL.no rfl rfl rfl rfl rfl (by decide) ?_
          refine VL.r (.inl rfl) rfl (by decide) (yr_pick_t (u := .bool true) rfl rfl rfl) ?_
          refine VL.nil ?_
          refine VE.then_wp ?_
          refine V.condT rfl ?_
          refine V.seq ?_
          refine V.region ?_
          refine VL.r (.inl rfl) rfl (by decide) (yr_build rfl lay35_Fill rfl .nil (by first | (simp; done) | (simp [vv]; done) | (simp [cn, cn1, cn0]; done)) rfl) ?_
          refine VL.s (.inl rfl) rfl (yc_store rfl sz35_Fill rfl rfl (by repeat (first | exact UpdF.here | apply UpdF.there | apply UpdF.thereS)) (.inr ⟨rfl, rfl⟩) rfl (by first | exact Nat.le_of_ble_eq_true rfl | simp) (by decide) rfl) ?_
          rintro ⟨⟩
          refine VL.r (.inl rfl) rfl (by decide) (yr_assign (u := .bool false) rfl rfl) ?_
          refine VL.nil ?_
          refine VE.then_wp ?_
          refine V.ret ?_
          refine VE.then_ret ?_
          refine retN rfl (.cons (rv_cellS rfl Try.underlying35 sz35_Fill (by first | exact Sees.root (by assumption) | exact Sees.own (by repeat (first | exact List.mem_cons_self | exact List.mem_append_left _ (by assumption) | apply List.mem_cons_of_mem | apply List.mem_append_right)) | exact Sees.root (hR _ (by omega)) | exact Sees.own (RowsIn.mem (by repeat (first | exact RowsIn.here | exact RowsIn.last | apply RowsIn.there | apply RowsIn.thereS)) _ (by omega)) | exact Sees.own (WRowsIn.mem (by repeat (first | exact WRowsIn.here | exact WRowsIn.last | apply WRowsIn.there | apply WRowsIn.thereS)) _ (by omega))) rfl rfl rfl) (.cons (rv_tmp rfl (by nofun)) .nil)) (by nofun) (fun w1 hw => ?_)
          first
            | (obtain ⟨m1, m2, _, _⟩ := meshOk_is hm
               have hk9 : okK ws (f1, f2, f3) st (W : Int).toNat (H : Int).toNat ((W : Int).toNat * (H : Int).toNat * (D : Int).toNat) = true := by assumption
               ((have hs : fiOk ws (f1, f2, f3) st (W : Int) (H : Int) (D : Int) = true := fiOk_yes (by assumption) m1 m2 (by assumption) (by assumption)); exact ⟨(p51.1, p51.2), by simp only [fiF_yes hs, fiS_yes hs, fiI_yes hs, fiL_yes hs, hs, fiK_length]; rfl, by rw [fiL_yes hs]; exact (hw.pick (by apply Pick.one; repeat (first | exact Rem.here | apply Rem.there))).out1⟩))
            | ((have hs : fiOk ws (f1, f2, f3) st (W : Int) (H : Int) (D : Int) = false := by first | exact fiOk_no5 (by assumption)); exact ⟨(none, 0), by simp only [fiF_no hs, fiS_no hs, fiI_no hs, fiL_no hs, hs]; rfl, hw.below, by rw [fiL_no hs]; simp [vl, Ent.at], List.pairwise_singleton _ _⟩)
            | ((have hs : fiOk ws (f1, f2, f3) st wi hi de = false := by first | exact fiOk_no1 (by assumption) | exact fiOk_no2 (by assumption) | exact fiOk_no3 (by assumption) | exact fiOk_no4 (by assumption) | exact fiOk_no4 (szOk_no1 (by assumption)).symm | exact fiOk_no4 (szOk_no2 (by assumption)).symm | exact fiOk_no4 (szOk_no3 (by assumption)).symm | exact fiOk_no4 (szOk_no4 (by omega))); exact ⟨(none, 0), by simp only [fiF_no hs, fiS_no hs, fiI_no hs, fiL_no hs, hs]; rfl, hw.below, by rw [fiL_no hs]; simp [vl, Ent.at], List.pairwise_singleton _ _⟩)
            | (have hm9 : (fin3 (f1, f2, f3) && above st) = false := by
                 cases h8 : fin3 (f1, f2, f3)
                 · rfl
                 · cases h9 : above st
                   · rfl
                   · exfalso
                     have := meshOk_last (n := W * H * D) h8 h9 hsz
                     rw [hm] at this
                     have e9 : icmp .eql ((W * H * D : Nat) : Int) ((W : Int) * (H : Int) * (D : Int)) = true := by show (_ == _) = true; rw [beq_iff_eq]; norm_cast
                     rw [e9] at this; cases this
               rcases Bool.and_eq_false_iff.1 hm9 with h9 | h9
               · ((have hs : fiOk ws (f1, f2, f3) st (W : Int) (H : Int) (D : Int) = false := by first | exact fiOk_no2 h9); exact ⟨(none, 0), by simp only [fiF_no hs, fiS_no hs, fiI_no hs, fiL_no hs, hs]; rfl, hw.below, by rw [fiL_no hs]; simp [vl, Ent.at], List.pairwise_singleton _ _⟩)
               · ((have hs : fiOk ws (f1, f2, f3) st (W : Int) (H : Int) (D : Int) = false := by first | exact fiOk_no3 h9); exact ⟨(none, 0), by simp only [fiF_no hs, fiS_no hs, fiI_no hs, fiL_no hs, hs]; rfl, hw.below, by rw [fiL_no hs]; simp [vl, Ent.at], List.pairwise_singleton _ _⟩))
        · skip
          replace h7 := bnot_f h7
          have hb := mesh_mul (wi := wi) (hi := hi) (de := de) (by assumption) (by assumption) (by assumption)
          refine VL.r (.inr ⟨_, _, _, rfl, rfl, rfl⟩) rfl (by decide) (yr_move rfl rfl) ?_
          refine VL.r (.inr ⟨_, _, _, rfl, rfl, rfl⟩) rfl (by decide) (yr_move rfl rfl) ?_
          refine VL.r (.inr ⟨_, _, _, rfl, rfl, rfl⟩) rfl (by decide) (yr_int rfl rfl rfl (.inr (.inr ⟨rfl, wrap_in (by omega)⟩))) ?_
          refine VL.r (.inr ⟨_, _, _, rfl, rfl, rfl⟩) rfl (by decide) (yr_move rfl rfl) ?_
          refine VL.r (.inr ⟨_, _, _, rfl, rfl, rfl⟩) rfl (by decide) (yr_int rfl rfl rfl (.inr (.inr ⟨rfl, wrap_in (by omega)⟩))) ?_
          refine VL.r (.inr ⟨_, _, _, rfl, rfl, rfl⟩) rfl (by decide) (yr_icmp rfl (.inr (.inr (.inr (.inr (.inl rfl))))) rfl rfl) ?_
          refine VL.r (.inl rfl) rfl (by decide) (yr_pick_f rfl rfl rfl) ?_
          refine VL.nil ?_
          refine VE.then_wp ?_
          refine V.cond rfl (fun h9 => ?_) (fun h9 => ?_)
          · skip
            replace h9 := ic_gtr h9
            refine V.seq ?_
            refine V.region ?_
            refine VL.r (.inl rfl) rfl (by decide) (yr_build rfl lay35_Fill rfl .nil (by first | (simp; done) | (simp [vv]; done) | (simp [cn, cn1, cn0]; done)) rfl) ?_
            refine VL.s (.inl rfl) rfl (yc_store rfl sz35_Fill rfl rfl (by repeat (first | exact UpdF.here | apply UpdF.there | apply UpdF.thereS)) (.inr ⟨rfl, rfl⟩) rfl (by first | exact Nat.le_of_ble_eq_true rfl | simp) (by decide) rfl) ?_
            rintro ⟨⟩
            refine VL.r (.inl rfl) rfl (by decide) (yr_assign (u := .bool false) rfl rfl) ?_
            refine VL.nil ?_
            refine VE.then_wp ?_
            refine V.ret ?_
            refine VE.then_ret ?_
            refine retN rfl (.cons (rv_cellS rfl Try.underlying35 sz35_Fill (by first | exact Sees.root (by assumption) | exact Sees.own (by repeat (first | exact List.mem_cons_self | exact List.mem_append_left _ (by assumption) | apply List.mem_cons_of_mem | apply List.mem_append_right)) | exact Sees.root (hR _ (by omega)) | exact Sees.own (RowsIn.mem (by repeat (first | exact RowsIn.here | exact RowsIn.last | apply RowsIn.there | apply RowsIn.thereS)) _ (by omega)) | exact Sees.own (WRowsIn.mem (by repeat (first | exact WRowsIn.here | exact WRowsIn.last | apply WRowsIn.there | apply WRowsIn.thereS)) _ (by omega))) rfl rfl rfl) (.cons (rv_tmp rfl (by nofun)) .nil)) (by nofun) (fun w1 hw => ?_)
            first
              | (obtain ⟨m1, m2, _, _⟩ := meshOk_is hm
                 have hk9 : okK ws (f1, f2, f3) st (W : Int).toNat (H : Int).toNat ((W : Int).toNat * (H : Int).toNat * (D : Int).toNat) = true := by assumption
                 ((have hs : fiOk ws (f1, f2, f3) st (W : Int) (H : Int) (D : Int) = true := fiOk_yes (by assumption) m1 m2 (by assumption) (by assumption)); exact ⟨(p51.1, p51.2), by simp only [fiF_yes hs, fiS_yes hs, fiI_yes hs, fiL_yes hs, hs, fiK_length]; rfl, by rw [fiL_yes hs]; exact (hw.pick (by apply Pick.one; repeat (first | exact Rem.here | apply Rem.there))).out1⟩))
              | ((have hs : fiOk ws (f1, f2, f3) st (W : Int) (H : Int) (D : Int) = false := by first | exact fiOk_no5 (by assumption)); exact ⟨(none, 0), by simp only [fiF_no hs, fiS_no hs, fiI_no hs, fiL_no hs, hs]; rfl, hw.below, by rw [fiL_no hs]; simp [vl, Ent.at], List.pairwise_singleton _ _⟩)
              | ((have hs : fiOk ws (f1, f2, f3) st wi hi de = false := by first | exact fiOk_no1 (by assumption) | exact fiOk_no2 (by assumption) | exact fiOk_no3 (by assumption) | exact fiOk_no4 (by assumption) | exact fiOk_no4 (szOk_no1 (by assumption)).symm | exact fiOk_no4 (szOk_no2 (by assumption)).symm | exact fiOk_no4 (szOk_no3 (by assumption)).symm | exact fiOk_no4 (szOk_no4 (by omega))); exact ⟨(none, 0), by simp only [fiF_no hs, fiS_no hs, fiI_no hs, fiL_no hs, hs]; rfl, hw.below, by rw [fiL_no hs]; simp [vl, Ent.at], List.pairwise_singleton _ _⟩)
              | (have hm9 : (fin3 (f1, f2, f3) && above st) = false := by
                   cases h8 : fin3 (f1, f2, f3)
                   · rfl
                   · cases h9 : above st
                     · rfl
                     · exfalso
                       have := meshOk_last (n := W * H * D) h8 h9 hsz
                       rw [hm] at this
                       have e9 : icmp .eql ((W * H * D : Nat) : Int) ((W : Int) * (H : Int) * (D : Int)) = true := by show (_ == _) = true; rw [beq_iff_eq]; norm_cast
                       rw [e9] at this; cases this
                 rcases Bool.and_eq_false_iff.1 hm9 with h9 | h9
                 · ((have hs : fiOk ws (f1, f2, f3) st (W : Int) (H : Int) (D : Int) = false := by first | exact fiOk_no2 h9); exact ⟨(none, 0), by simp only [fiF_no hs, fiS_no hs, fiI_no hs, fiL_no hs, hs]; rfl, hw.below, by rw [fiL_no hs]; simp [vl, Ent.at], List.pairwise_singleton _ _⟩)
                 · ((have hs : fiOk ws (f1, f2, f3) st (W : Int) (H : Int) (D : Int) = false := by first | exact fiOk_no3 h9); exact ⟨(none, 0), by simp only [fiF_no hs, fiS_no hs, fiI_no hs, fiL_no hs, hs]; rfl, hw.below, by rw [fiL_no hs]; simp [vl, Ent.at], List.pairwise_singleton _ _⟩))
          · skip
            replace h9 := ic_gtr' h9
            have hsz : szOk wi hi de = true := szOk_yes (by assumption) (by assumption) (by assumption) (by omega)
            obtain ⟨W, H, D, rfl, rfl, rfl, q1, q2, q3, q4, q5, q6, hbd⟩ := szOk_is hsz
            have hWH : W * H ≤ 216 := Nat.le_trans (Nat.le_mul_of_pos_right _ q3) hbd
            refine VX.own (fun w hw => hw.nil 32) ?_
            refine V.skip ?_
            refine VE.then_wp ?_
            refine V.seq ?_
            refine V.region ?_
            refine VL.new1 (.inl rfl) rfl (by decide) (yn_alloc rfl zero4_Fill rfl) ?_
            intro b15
            refine VL.s (.inl rfl) rfl (yc_store rfl sz4_Fill rfl rfl (by repeat (first | exact UpdF.here | apply UpdF.there | apply UpdF.thereS)) (.inl ⟨rfl, rfl⟩) rfl (by first | exact Nat.le_of_ble_eq_true rfl | simp) (by decide) rfl) ?_
            rintro ⟨⟩
            refine VL.nil ?_
            refine VE.then_wp ?_
            refine V.seq ?_
            refine V.region ?_
            refine VL.q (.inl rfl) rfl (by decide) (yq_loadS rfl Try.underlying35 sz35_Fill rfl (by first | exact Sees.root (by assumption) | exact Sees.own (by repeat (first | exact List.mem_cons_self | exact List.mem_append_left _ (by assumption) | apply List.mem_cons_of_mem | apply List.mem_append_right)) | exact Sees.root (hR _ (by omega)) | exact Sees.own (RowsIn.mem (by repeat (first | exact RowsIn.here | exact RowsIn.last | apply RowsIn.there | apply RowsIn.thereS)) _ (by omega)) | exact Sees.own (WRowsIn.mem (by repeat (first | exact WRowsIn.here | exact WRowsIn.last | apply WRowsIn.there | apply WRowsIn.thereS)) _ (by omega))) rfl rfl rfl) ?_
            refine VL.r (.inl rfl) rfl (by decide) (yr_func3 rfl rfl rfl rfl) ?_
            refine VL.c (.inl rfl) rfl (by decide) (yc_callf rfl known67_Fill (.cons rfl (.cons rfl .nil)) (by apply Pick.e4; all_goals (repeat (first | exact Rem.here | apply Rem.there))) (c_each (vs := []) (X := Option Addr × Nat) (S := (fun k (p : Option Addr × Nat) => [⟨some ⟨b6, 0, none⟩, [.slice a ws.length c], 1, 57⟩, ⟨some ⟨b14, 0, none⟩, [.float .f32 f1, .float .f32 f2, .float .f32 f3, .float .f32 st, .int .i64 (W : Int), .int .i64 (H : Int), .int .i64 (D : Int), .slice p.1 (k) p.2], 8, 35⟩, ⟨some ⟨b15, 0, none⟩, [.bool (okK ws (f1, f2, f3) st W H (k))], 1, 4⟩, ⟨p.1, vl (fiK ws (f1, f2, f3) st W H (k)), p.2 * 3, 32⟩])) (x0 := (none, 0)) ⟨q4, q5, q6⟩ known124_Fill (fun x y z s hx hy hz => c_fillNode hA hR (by omega) (by assumption) hbd hx hy hz))) ?_
            intro p51
            refine VL.nil ?_
            refine VE.then_wp ?_
            refine V.seq ?_
            refine V.seq ?_
            refine V.region ?_
            refine VL.q (.inl rfl) rfl (by decide) (yq_load rfl fb4_Fill rfl (by first | exact Sees.root (by assumption) | exact Sees.own (by repeat (first | exact List.mem_cons_self | exact List.mem_append_left _ (by assumption) | apply List.mem_cons_of_mem | apply List.mem_append_right)) | exact Sees.root (hR _ (by omega)) | exact Sees.own (RowsIn.mem (by repeat (first | exact RowsIn.here | exact RowsIn.last | apply RowsIn.there | apply RowsIn.thereS)) _ (by omega)) | exact Sees.own (WRowsIn.mem (by repeat (first | exact WRowsIn.here | exact WRowsIn.last | apply WRowsIn.there | apply WRowsIn.thereS)) _ (by omega))) rfl) ?_
            refine VL.r (.inl rfl) rfl (by decide) (yr_not rfl rfl) ?_
            refine VL.nil ?_
            refine VE.then_wp ?_
            refine V.cond rfl (fun h10 => ?_) (fun h10 => ?_)
            · skip
              replace h10 := bnot_t h10
              refine V.seq ?_
              refine V.region ?_
              refine VL.r (.inl rfl) rfl (by decide) (yr_build rfl lay35_Fill rfl .nil (by first | (simp; done) | (simp [vv]; done) | (simp [cn, cn1, cn0]; done)) rfl) ?_
              refine VL.s (.inl rfl) rfl (yc_store rfl sz35_Fill rfl rfl (by repeat (first | exact UpdF.here | apply UpdF.there | apply UpdF.thereS)) (.inr ⟨rfl, rfl⟩) rfl (by first | exact Nat.le_of_ble_eq_true rfl | simp) (by decide) rfl) ?_
              rintro ⟨⟩
              refine VL.r (.inl rfl) rfl (by decide) (yr_assign (u := .bool false) rfl rfl) ?_
              refine VL.nil ?_
              refine VE.then_wp ?_
              refine V.ret ?_
              refine VE.then_ret ?_
              refine retN rfl (.cons (rv_cellS rfl Try.underlying35 sz35_Fill (by first | exact Sees.root (by assumption) | exact Sees.own (by repeat (first | exact List.mem_cons_self | exact List.mem_append_left _ (by assumption) | apply List.mem_cons_of_mem | apply List.mem_append_right)) | exact Sees.root (hR _ (by omega)) | exact Sees.own (RowsIn.mem (by repeat (first | exact RowsIn.here | exact RowsIn.last | apply RowsIn.there | apply RowsIn.thereS)) _ (by omega)) | exact Sees.own (WRowsIn.mem (by repeat (first | exact WRowsIn.here | exact WRowsIn.last | apply WRowsIn.there | apply WRowsIn.thereS)) _ (by omega))) rfl rfl rfl) (.cons (rv_tmp rfl (by nofun)) .nil)) (by nofun) (fun w1 hw => ?_)
              first
                | (obtain ⟨m1, m2, _, _⟩ := meshOk_is hm
                   have hk9 : okK ws (f1, f2, f3) st (W : Int).toNat (H : Int).toNat ((W : Int).toNat * (H : Int).toNat * (D : Int).toNat) = true := by assumption
                   ((have hs : fiOk ws (f1, f2, f3) st (W : Int) (H : Int) (D : Int) = true := fiOk_yes (by assumption) m1 m2 (by assumption) (by assumption)); exact ⟨(p51.1, p51.2), by simp only [fiF_yes hs, fiS_yes hs, fiI_yes hs, fiL_yes hs, hs, fiK_length]; rfl, by rw [fiL_yes hs]; exact (hw.pick (by apply Pick.one; repeat (first | exact Rem.here | apply Rem.there))).out1⟩))
                | ((have hs : fiOk ws (f1, f2, f3) st (W : Int) (H : Int) (D : Int) = false := by first | exact fiOk_no5 (by assumption)); exact ⟨(none, 0), by simp only [fiF_no hs, fiS_no hs, fiI_no hs, fiL_no hs, hs]; rfl, hw.below, by rw [fiL_no hs]; simp [vl, Ent.at], List.pairwise_singleton _ _⟩)
                | ((have hs : fiOk ws (f1, f2, f3) st wi hi de = false := by first | exact fiOk_no1 (by assumption) | exact fiOk_no2 (by assumption) | exact fiOk_no3 (by assumption) | exact fiOk_no4 (by assumption) | exact fiOk_no4 (szOk_no1 (by assumption)).symm | exact fiOk_no4 (szOk_no2 (by assumption)).symm | exact fiOk_no4 (szOk_no3 (by assumption)).symm | exact fiOk_no4 (szOk_no4 (by omega))); exact ⟨(none, 0), by simp only [fiF_no hs, fiS_no hs, fiI_no hs, fiL_no hs, hs]; rfl, hw.below, by rw [fiL_no hs]; simp [vl, Ent.at], List.pairwise_singleton _ _⟩)
                | (have hm9 : (fin3 (f1, f2, f3) && above st) = false := by
                     cases h8 : fin3 (f1, f2, f3)
                     · rfl
                     · cases h9 : above st
                       · rfl
                       · exfalso
                         have := meshOk_last (n := W * H * D) h8 h9 hsz
                         rw [hm] at this
                         have e9 : icmp .eql ((W * H * D : Nat) : Int) ((W : Int) * (H : Int) * (D : Int)) = true := by show (_ == _) = true; rw [beq_iff_eq]; norm_cast
                         rw [e9] at this; cases this
                   rcases Bool.and_eq_false_iff.1 hm9 with h9 | h9
                   · ((have hs : fiOk ws (f1, f2, f3) st (W : Int) (H : Int) (D : Int) = false := by first | exact fiOk_no2 h9); exact ⟨(none, 0), by simp only [fiF_no hs, fiS_no hs, fiI_no hs, fiL_no hs, hs]; rfl, hw.below, by rw [fiL_no hs]; simp [vl, Ent.at], List.pairwise_singleton _ _⟩)
                   · ((have hs : fiOk ws (f1, f2, f3) st (W : Int) (H : Int) (D : Int) = false := by first | exact fiOk_no3 h9); exact ⟨(none, 0), by simp only [fiF_no hs, fiS_no hs, fiI_no hs, fiL_no hs, hs]; rfl, hw.below, by rw [fiL_no hs]; simp [vl, Ent.at], List.pairwise_singleton _ _⟩))
            · skip
              replace h10 := bnot_f h10
              refine V.skip ?_
              refine VE.then_wp ?_
              refine V.seq ?_
              refine V.region ?_
              refine VL.q (.inl rfl) rfl (by decide) (yq_loadS rfl Try.underlying35 sz35_Fill rfl (by first | exact Sees.root (by assumption) | exact Sees.own (by repeat (first | exact List.mem_cons_self | exact List.mem_append_left _ (by assumption) | apply List.mem_cons_of_mem | apply List.mem_append_right)) | exact Sees.root (hR _ (by omega)) | exact Sees.own (RowsIn.mem (by repeat (first | exact RowsIn.here | exact RowsIn.last | apply RowsIn.there | apply RowsIn.thereS)) _ (by omega)) | exact Sees.own (WRowsIn.mem (by repeat (first | exact WRowsIn.here | exact WRowsIn.last | apply WRowsIn.there | apply WRowsIn.thereS)) _ (by omega))) rfl rfl rfl) ?_
              rcases Bool.eq_false_or_eq_true (meshOk (f1, f2, f3) st (W : Int) (H : Int) (D : Int) (W * H * D)) with hm | hm
              · skip
                refine VL.q (.inl rfl) rfl (by decide) (yq_callf rfl known127_Fill (.cons rfl .nil) (fun w hw => (c_ifMeshY hm))) ?_
                refine VL.r (.inl rfl) rfl (by decide) (yr_extract rfl rfl rfl (by nofun)) ?_
                refine VL.r (.inl rfl) rfl (by decide) (yr_extract rfl rfl rfl (by nofun)) ?_
                refine VL.s (.inl rfl) rfl (yc_store rfl sz35_Fill rfl rfl (by repeat (first | exact UpdF.here | apply UpdF.there | apply UpdF.thereS)) (.inr ⟨rfl, rfl⟩) rfl (by first | exact Nat.le_of_ble_eq_true rfl | simp) (by decide) rfl) ?_
                rintro ⟨⟩
                refine VL.r (.inl rfl) rfl (by decide) (yr_assign rfl rfl) ?_
                refine VL.nil ?_
                refine VE.then_wp ?_
                refine V.ret ?_
                refine retN rfl (.cons (rv_cellS rfl Try.underlying35 sz35_Fill (by first | exact Sees.root (by assumption) | exact Sees.own (by repeat (first | exact List.mem_cons_self | exact List.mem_append_left _ (by assumption) | apply List.mem_cons_of_mem | apply List.mem_append_right)) | exact Sees.root (hR _ (by omega)) | exact Sees.own (RowsIn.mem (by repeat (first | exact RowsIn.here | exact RowsIn.last | apply RowsIn.there | apply RowsIn.thereS)) _ (by omega)) | exact Sees.own (WRowsIn.mem (by repeat (first | exact WRowsIn.here | exact WRowsIn.last | apply WRowsIn.there | apply WRowsIn.thereS)) _ (by omega))) rfl rfl rfl) (.cons (rv_tmp rfl (by nofun)) .nil)) (by nofun) (fun w1 hw => ?_)
                first
                  | (obtain ⟨m1, m2, _, _⟩ := meshOk_is hm
                     have hk9 : okK ws (f1, f2, f3) st (W : Int).toNat (H : Int).toNat ((W : Int).toNat * (H : Int).toNat * (D : Int).toNat) = true := by assumption
                     ((have hs : fiOk ws (f1, f2, f3) st (W : Int) (H : Int) (D : Int) = true := fiOk_yes (by assumption) m1 m2 (by assumption) (by assumption)); exact ⟨(p51.1, p51.2), by simp only [fiF_yes hs, fiS_yes hs, fiI_yes hs, fiL_yes hs, hs, fiK_length]; rfl, by rw [fiL_yes hs]; exact (hw.pick (by apply Pick.one; repeat (first | exact Rem.here | apply Rem.there))).out1⟩))
                  | ((have hs : fiOk ws (f1, f2, f3) st (W : Int) (H : Int) (D : Int) = false := by first | exact fiOk_no5 (by assumption)); exact ⟨(none, 0), by simp only [fiF_no hs, fiS_no hs, fiI_no hs, fiL_no hs, hs]; rfl, hw.below, by rw [fiL_no hs]; simp [vl, Ent.at], List.pairwise_singleton _ _⟩)
                  | ((have hs : fiOk ws (f1, f2, f3) st wi hi de = false := by first | exact fiOk_no1 (by assumption) | exact fiOk_no2 (by assumption) | exact fiOk_no3 (by assumption) | exact fiOk_no4 (by assumption) | exact fiOk_no4 (szOk_no1 (by assumption)).symm | exact fiOk_no4 (szOk_no2 (by assumption)).symm | exact fiOk_no4 (szOk_no3 (by assumption)).symm | exact fiOk_no4 (szOk_no4 (by omega))); exact ⟨(none, 0), by simp only [fiF_no hs, fiS_no hs, fiI_no hs, fiL_no hs, hs]; rfl, hw.below, by rw [fiL_no hs]; simp [vl, Ent.at], List.pairwise_singleton _ _⟩)
                  | (have hm9 : (fin3 (f1, f2, f3) && above st) = false := by
                       cases h8 : fin3 (f1, f2, f3)
                       · rfl
                       · cases h9 : above st
                         · rfl
                         · exfalso
                           have := meshOk_last (n := W * H * D) h8 h9 hsz
                           rw [hm] at this
                           have e9 : icmp .eql ((W * H * D : Nat) : Int) ((W : Int) * (H : Int) * (D : Int)) = true := by show (_ == _) = true; rw [beq_iff_eq]; norm_cast
                           rw [e9] at this; cases this
                     rcases Bool.and_eq_false_iff.1 hm9 with h9 | h9
                     · ((have hs : fiOk ws (f1, f2, f3) st (W : Int) (H : Int) (D : Int) = false := by first | exact fiOk_no2 h9); exact ⟨(none, 0), by simp only [fiF_no hs, fiS_no hs, fiI_no hs, fiL_no hs, hs]; rfl, hw.below, by rw [fiL_no hs]; simp [vl, Ent.at], List.pairwise_singleton _ _⟩)
                     · ((have hs : fiOk ws (f1, f2, f3) st (W : Int) (H : Int) (D : Int) = false := by first | exact fiOk_no3 h9); exact ⟨(none, 0), by simp only [fiF_no hs, fiS_no hs, fiI_no hs, fiL_no hs, hs]; rfl, hw.below, by rw [fiL_no hs]; simp [vl, Ent.at], List.pairwise_singleton _ _⟩))
              · skip
                refine VL.q (.inl rfl) rfl (by decide) (yq_callf rfl known127_Fill (.cons rfl .nil) (fun w hw => (c_ifMeshN hm))) ?_
                refine VL.r (.inl rfl) rfl (by decide) (yr_extract rfl rfl rfl (by nofun)) ?_
                refine VL.r (.inl rfl) rfl (by decide) (yr_extract rfl rfl rfl (by nofun)) ?_
                refine VL.s (.inl rfl) rfl (yc_store rfl sz35_Fill rfl rfl (by repeat (first | exact UpdF.here | apply UpdF.there | apply UpdF.thereS)) (.inr ⟨rfl, rfl⟩) rfl (by first | exact Nat.le_of_ble_eq_true rfl | simp) (by decide) rfl) ?_
                rintro ⟨⟩
                refine VL.r (.inl rfl) rfl (by decide) (yr_assign rfl rfl) ?_
                refine VL.nil ?_
                refine VE.then_wp ?_
                refine V.ret ?_
                refine retN rfl (.cons (rv_cellS rfl Try.underlying35 sz35_Fill (by first | exact Sees.root (by assumption) | exact Sees.own (by repeat (first | exact List.mem_cons_self | exact List.mem_append_left _ (by assumption) | apply List.mem_cons_of_mem | apply List.mem_append_right)) | exact Sees.root (hR _ (by omega)) | exact Sees.own (RowsIn.mem (by repeat (first | exact RowsIn.here | exact RowsIn.last | apply RowsIn.there | apply RowsIn.thereS)) _ (by omega)) | exact Sees.own (WRowsIn.mem (by repeat (first | exact WRowsIn.here | exact WRowsIn.last | apply WRowsIn.there | apply WRowsIn.thereS)) _ (by omega))) rfl rfl rfl) (.cons (rv_tmp rfl (by nofun)) .nil)) (by nofun) (fun w1 hw => ?_)
                first
                  | (obtain ⟨m1, m2, _, _⟩ := meshOk_is hm
                     have hk9 : okK ws (f1, f2, f3) st (W : Int).toNat (H : Int).toNat ((W : Int).toNat * (H : Int).toNat * (D : Int).toNat) = true := by assumption
                     ((have hs : fiOk ws (f1, f2, f3) st (W : Int) (H : Int) (D : Int) = true := fiOk_yes (by assumption) m1 m2 (by assumption) (by assumption)); exact ⟨(p51.1, p51.2), by simp only [fiF_yes hs, fiS_yes hs, fiI_yes hs, fiL_yes hs, hs, fiK_length]; rfl, by rw [fiL_yes hs]; exact (hw.pick (by apply Pick.one; repeat (first | exact Rem.here | apply Rem.there))).out1⟩))
                  | ((have hs : fiOk ws (f1, f2, f3) st (W : Int) (H : Int) (D : Int) = false := by first | exact fiOk_no5 (by assumption)); exact ⟨(none, 0), by simp only [fiF_no hs, fiS_no hs, fiI_no hs, fiL_no hs, hs]; rfl, hw.below, by rw [fiL_no hs]; simp [vl, Ent.at], List.pairwise_singleton _ _⟩)
                  | ((have hs : fiOk ws (f1, f2, f3) st wi hi de = false := by first | exact fiOk_no1 (by assumption) | exact fiOk_no2 (by assumption) | exact fiOk_no3 (by assumption) | exact fiOk_no4 (by assumption) | exact fiOk_no4 (szOk_no1 (by assumption)).symm | exact fiOk_no4 (szOk_no2 (by assumption)).symm | exact fiOk_no4 (szOk_no3 (by assumption)).symm | exact fiOk_no4 (szOk_no4 (by omega))); exact ⟨(none, 0), by simp only [fiF_no hs, fiS_no hs, fiI_no hs, fiL_no hs, hs]; rfl, hw.below, by rw [fiL_no hs]; simp [vl, Ent.at], List.pairwise_singleton _ _⟩)
                  | (have hm9 : (fin3 (f1, f2, f3) && above st) = false := by
                       cases h8 : fin3 (f1, f2, f3)
                       · rfl
                       · cases h9 : above st
                         · rfl
                         · exfalso
                           have := meshOk_last (n := W * H * D) h8 h9 hsz
                           rw [hm] at this
                           have e9 : icmp .eql ((W * H * D : Nat) : Int) ((W : Int) * (H : Int) * (D : Int)) = true := by show (_ == _) = true; rw [beq_iff_eq]; norm_cast
                           rw [e9] at this; cases this
                     rcases Bool.and_eq_false_iff.1 hm9 with h9 | h9
                     · ((have hs : fiOk ws (f1, f2, f3) st (W : Int) (H : Int) (D : Int) = false := by first | exact fiOk_no2 h9); exact ⟨(none, 0), by simp only [fiF_no hs, fiS_no hs, fiI_no hs, fiL_no hs, hs]; rfl, hw.below, by rw [fiL_no hs]; simp [vl, Ent.at], List.pairwise_singleton _ _⟩)
                     · ((have hs : fiOk ws (f1, f2, f3) st (W : Int) (H : Int) (D : Int) = false := by first | exact fiOk_no3 h9); exact ⟨(none, 0), by simp only [fiF_no hs, fiS_no hs, fiI_no hs, fiL_no hs, hs]; rfl, hw.below, by rw [fiL_no hs]; simp [vl, Ent.at], List.pairwise_singleton _ _⟩))

theorem c_specFill {w : World} {a : Option Addr} {c : Nat} {f : Nat → Option Addr × Nat} {ws : List Wr} {f1 f2 f3 st : Nat} {wi hi de : Int} (hA : Cl w a (whd f ws)) (hR : WRws w f ws) (hn : wbulk ws ≤ 1050000) : New Try.prog 44 [.slice a ws.length c, vv (f1, f2, f3), .float .f32 st, .int .i64 wi, .int .i64 hi, .int .i64 de] w (fun p : Option Addr × Nat => .tuple #[.agg #[.float .f32 (fiF ws (f1, f2, f3) st wi hi de).1, .float .f32 (fiF ws (f1, f2, f3) st wi hi de).2.1, .float .f32 (fiF ws (f1, f2, f3) st wi hi de).2.2, .float .f32 (fiS ws (f1, f2, f3) st wi hi de), .int .i64 (fiI ws (f1, f2, f3) st wi hi de wi), .int .i64 (fiI ws (f1, f2, f3) st wi hi de hi), .int .i64 (fiI ws (f1, f2, f3) st wi hi de de), .slice p.1 (fiL ws (f1, f2, f3) st wi hi de).length p.2], .bool (fiOk ws (f1, f2, f3) st wi hi de)]) (fun p => [⟨p.1, vl (fiL ws (f1, f2, f3) st wi hi de), p.2 * 3, 32⟩]) := by
  refine New.enter Try.func44 rfl Try.ntmps44 (Nat.le_of_ble_eq_true rfl) ?_
  have hwl : ws.length ≤ wbulk ws := by unfold wbulk; omega
  have hrw : ∀ k, k < ws.length → (ws.getD k zw).1.length ≤ 1050000 := fun k hk => by have := wbulk_row hk; omega
  refine V.seq ?_
  refine V.region ?_
  refine VL.new1 (.inl rfl) rfl (by decide) (yn_box rfl rfl (.inr ⟨rfl, rfl⟩)) ?_
  intro b7
  refine VL.new1 (.inl rfl) rfl (by decide) (yn_alloc rfl zero35_Fill rfl) ?_
  intro b12
  refine VL.r (.inl rfl) rfl (by decide) (yr_assign (u := .bool false) rfl rfl) ?_
  refine VL.nil ?_
  refine VE.then_wp ?_
  refine V.seq ?_
  refine V.seq ?_
  refine V.region ?_
  refine VL.r (.inl rfl) rfl (by decide) (yr_move rfl rfl) ?_
  refine VL.q (.inl rfl) rfl (by decide) (yq_callf rfl known116_Fill (.cons rfl .nil) (fun w hw => (c_l02Are (by first | exact Sees.root (by assumption) w hw | exact Sees.own (by repeat (first | exact List.mem_cons_self | exact List.mem_append_left _ (by assumption) | apply List.mem_cons_of_mem | apply List.mem_append_right)) w hw) (by first | exact WRws.root (by assumption) hw | exact WRws.own (by repeat (first | exact WRowsIn.here | exact WRowsIn.last | apply WRowsIn.there | apply WRowsIn.thereS)) hw) (by omega)))) ?_
  refine VL.r (.inl rfl) rfl (by decide) (yr_not rfl rfl) ?_
  refine VL.r (.inl rfl) rfl (by decide) (yr_move rfl rfl) ?_
  refine VX.split 21 _ rfl (fun h1 => ?_) (fun h1 => ?_)
  · skip
    replace h1 := bnot_t h1
    refine VL.no rfl rfl rfl rfl rfl (by decide) ?_
    refine VL.no rfl rfl rfl rfl rfl (by decide) ?_
    refine VL.no rfl rfl rfl rfl rfl (by decide) ?_
    refine VL.r (.inl rfl) rfl (by decide) (yr_pick_t (u := .bool true) rfl rfl rfl) ?_
    refine VL.r (.inl rfl) rfl (by decide) (yr_move rfl rfl) ?_
    refine VL.no rfl rfl rfl rfl rfl (by decide) ?_
    refine VL.no rfl rfl rfl rfl rfl (by decide) ?_
    refine VL.no rfl rfl rfl rfl rfl (by decide) ?_
    refine VL.r (.inl rfl) rfl (by decide) (yr_pick_t (u := .bool true) rfl rfl rfl) ?_
    refine VL.r (.inl rfl) rfl (by decide) (yr_move rfl rfl) ?_
    refine VL.no rfl rfl rfl rfl rfl (by decide) ?_
    refine VL.no rfl rfl rfl rfl rfl (by decide) ?_
    refine VL.no rfl rfl rfl rfl rfl (by decide) ?_
    refine VL.no rfl rfl rfl rfl rfl (by decide) ?_
    refine VL.no rfl rfl rfl rfl rfl (by decide) ?_
    refine VL.r (.inl rfl) rfl (by decide) (yr_pick_t (u := .bool true) rfl rfl rfl) ?_
    refine VL.nil ?_
    refine VE.then_wp ?_
    refine V.condT rfl ?_
    refine V.seq ?_
    refine V.region ?_
    refine VL.r (.inl rfl) rfl (by decide) (yr_build rfl lay35_Fill rfl .nil (by first | (simp; done) | (simp [vv]; done) | (simp [cn, cn1, cn0]; done)) rfl) ?_
    refine VL.s (.inl rfl) rfl (yc_store rfl sz35_Fill rfl rfl (by repeat (first | exact UpdF.here | apply UpdF.there | apply UpdF.thereS)) (.inr ⟨rfl, rfl⟩) rfl (by first | exact Nat.le_of_ble_eq_true rfl | simp) (by decide) rfl) ?_
    rintro ⟨⟩
    refine VL.r (.inl rfl) rfl (by decide) (yr_assign (u := .bool false) rfl rfl) ?_
    refine VL.nil ?_
    refine VE.then_wp ?_
    refine V.ret ?_
    refine VE.then_ret ?_
    refine retN rfl (.cons (rv_cellS rfl Try.underlying35 sz35_Fill (by first | exact Sees.root (by assumption) | exact Sees.own (by repeat (first | exact List.mem_cons_self | exact List.mem_append_left _ (by assumption) | apply List.mem_cons_of_mem | apply List.mem_append_right)) | exact Sees.root (hR _ (by omega)) | exact Sees.own (RowsIn.mem (by repeat (first | exact RowsIn.here | exact RowsIn.last | apply RowsIn.there | apply RowsIn.thereS)) _ (by omega)) | exact Sees.own (WRowsIn.mem (by repeat (first | exact WRowsIn.here | exact WRowsIn.last | apply WRowsIn.there | apply WRowsIn.thereS)) _ (by omega))) rfl rfl rfl) (.cons (rv_tmp rfl (by nofun)) .nil)) (by nofun) (fun w1 hw => ?_)
    first
      | (obtain rfl : k = W * H * D := by omega
         have hk9 : okK ws (f1, f2, f3) st (W : Int).toNat (H : Int).toNat ((W : Int).toNat * (H : Int).toNat * (D : Int).toNat) = true := hak
         ((have hs : fiOk ws (f1, f2, f3) st (W : Int) (H : Int) (D : Int) = true := fiOk_yes (by assumption) (by assumption) (by assumption) (by assumption) (by assumption)); exact ⟨(ar, cr), by simp only [fiF_yes hs, fiS_yes hs, fiI_yes hs, fiL_yes hs, hs, fiK_length]; rfl, by rw [fiL_yes hs]; exact (hw.pick (by apply Pick.one; repeat (first | exact Rem.here | apply Rem.there))).out1⟩))
      | ((have hs : fiOk ws (f1, f2, f3) st (W : Int) (H : Int) (D : Int) = false := by first | exact fiOk_no5 (okK_mono (a := k + 1) (by show k + 1 ≤ W * H * D; omega) (by rw [okK]; show (_ && okN ws (f1, f2, f3) st W H k) = false; rw [hfo, Bool.and_false]))); exact ⟨(none, 0), by simp only [fiF_no hs, fiS_no hs, fiI_no hs, fiL_no hs, hs]; rfl, hw.below, by rw [fiL_no hs]; simp [vl, Ent.at], List.pairwise_singleton _ _⟩)
      | ((have hs : fiOk ws (f1, f2, f3) st wi hi de = false := by first | exact fiOk_no1 (by assumption) | exact fiOk_no2 (by assumption) | exact fiOk_no3 (by assumption) | exact fiOk_no4 (by assumption) | exact fiOk_no4 (szOk_no1 (by assumption)).symm | exact fiOk_no4 (szOk_no2 (by assumption)).symm | exact fiOk_no4 (szOk_no3 (by assumption)).symm | exact fiOk_no4 (szOk_no4 (by omega))); exact ⟨(none, 0), by simp only [fiF_no hs, fiS_no hs, fiI_no hs, fiL_no hs, hs]; rfl, hw.below, by rw [fiL_no hs]; simp [vl, Ent.at], List.pairwise_singleton _ _⟩)
  · skip
    replace h1 := bnot_f h1
    refine VL.q (.inr ⟨_, _, _, rfl, rfl, rfl⟩) rfl (by decide) (yq_loadS rfl Try.underlying32 sz32_Fill rfl (by first | exact Sees.root (by assumption) | exact Sees.own (by repeat (first | exact List.mem_cons_self | exact List.mem_append_left _ (by assumption) | apply List.mem_cons_of_mem | apply List.mem_append_right)) | exact Sees.root (hR _ (by omega)) | exact Sees.own (RowsIn.mem (by repeat (first | exact RowsIn.here | exact RowsIn.last | apply RowsIn.there | apply RowsIn.thereS)) _ (by omega)) | exact Sees.own (WRowsIn.mem (by repeat (first | exact WRowsIn.here | exact WRowsIn.last | apply WRowsIn.there | apply WRowsIn.thereS)) _ (by omega))) rfl rfl rfl) ?_
    refine VL.q (.inr ⟨_, _, _, rfl, rfl, rfl⟩) rfl (by decide) (yq_callf rfl known117_Fill (.cons rfl .nil) (fun w hw => c_fin3S)) ?_
    refine VL.r (.inr ⟨_, _, _, rfl, rfl, rfl⟩) rfl (by decide) (yr_not rfl rfl) ?_
    refine VL.r (.inl rfl) rfl (by decide) (yr_pick_f rfl rfl rfl) ?_
    refine VL.r (.inl rfl) rfl (by decide) (yr_move rfl rfl) ?_
    refine VX.split 26 _ rfl (fun h3 => ?_) (fun h3 => ?_)
    · skip
      replace h3 := bnot_t h3
      refine VL.no rfl rfl rfl rfl rfl (by decide) ?_
      refine VL.no rfl rfl rfl rfl rfl (by decide) ?_
      refine VL.no rfl rfl rfl rfl rfl (by decide) ?_
      refine VL.r (.inl rfl) rfl (by decide) (yr_pick_t (u := .bool true) rfl rfl rfl) ?_
      refine VL.r (.inl rfl) rfl (by decide) (yr_move rfl rfl) ?_
      refine VL.no rfl rfl rfl rfl rfl (by decide) ?_
      refine VL.no rfl rfl rfl rfl rfl (by decide) ?_
      refine VL.no rfl rfl rfl rfl rfl (by decide) ?_
      refine VL.no rfl rfl rfl rfl rfl (by decide) ?_
      refine VL.no rfl rfl rfl rfl rfl (by decide) ?_
      refine VL.r (.inl rfl) rfl (by decide) (yr_pick_t (u := .bool true) rfl rfl rfl) ?_
      refine VL.nil ?_
      refine VE.then_wp ?_
      refine V.condT rfl ?_
      refine V.seq ?_
      refine V.region ?_
      refine VL.r (.inl rfl) rfl (by decide) (yr_build rfl lay35_Fill rfl .nil (by first | (simp; done) | (simp [vv]; done) | (simp [cn, cn1, cn0]; done)) rfl) ?_
      refine VL.s (.inl rfl) rfl (yc_store rfl sz35_Fill rfl rfl (by repeat (first | exact UpdF.here | apply UpdF.there | apply UpdF.thereS)) (.inr ⟨rfl, rfl⟩) rfl (by first | exact Nat.le_of_ble_eq_true rfl | simp) (by decide) rfl) ?_
      rintro ⟨⟩
      refine VL.r (.inl rfl) rfl (by decide) (yr_assign (u := .bool false) rfl rfl) ?_
      refine VL.nil ?_
      refine VE.then_wp ?_
      refine V.ret ?_
      refine VE.then_ret ?_
      refine retN rfl (.cons (rv_cellS rfl Try.underlying35 sz35_Fill (by first | exact Sees.root (by assumption) | exact Sees.own (by repeat (first | exact List.mem_cons_self | exact List.mem_append_left _ (by assumption) | apply List.mem_cons_of_mem | apply List.mem_append_right)) | exact Sees.root (hR _ (by omega)) | exact Sees.own (RowsIn.mem (by repeat (first | exact RowsIn.here | exact RowsIn.last | apply RowsIn.there | apply RowsIn.thereS)) _ (by omega)) | exact Sees.own (WRowsIn.mem (by repeat (first | exact WRowsIn.here | exact WRowsIn.last | apply WRowsIn.there | apply WRowsIn.thereS)) _ (by omega))) rfl rfl rfl) (.cons (rv_tmp rfl (by nofun)) .nil)) (by nofun) (fun w1 hw => ?_)
      first
        | (obtain rfl : k = W * H * D := by omega
           have hk9 : okK ws (f1, f2, f3) st (W : Int).toNat (H : Int).toNat ((W : Int).toNat * (H : Int).toNat * (D : Int).toNat) = true := hak
           ((have hs : fiOk ws (f1, f2, f3) st (W : Int) (H : Int) (D : Int) = true := fiOk_yes (by assumption) (by assumption) (by assumption) (by assumption) (by assumption)); exact ⟨(ar, cr), by simp only [fiF_yes hs, fiS_yes hs, fiI_yes hs, fiL_yes hs, hs, fiK_length]; rfl, by rw [fiL_yes hs]; exact (hw.pick (by apply Pick.one; repeat (first | exact Rem.here | apply Rem.there))).out1⟩))
        | ((have hs : fiOk ws (f1, f2, f3) st (W : Int) (H : Int) (D : Int) = false := by first | exact fiOk_no5 (okK_mono (a := k + 1) (by show k + 1 ≤ W * H * D; omega) (by rw [okK]; show (_ && okN ws (f1, f2, f3) st W H k) = false; rw [hfo, Bool.and_false]))); exact ⟨(none, 0), by simp only [fiF_no hs, fiS_no hs, fiI_no hs, fiL_no hs, hs]; rfl, hw.below, by rw [fiL_no hs]; simp [vl, Ent.at], List.pairwise_singleton _ _⟩)
        | ((have hs : fiOk ws (f1, f2, f3) st wi hi de = false := by first | exact fiOk_no1 (by assumption) | exact fiOk_no2 (by assumption) | exact fiOk_no3 (by assumption) | exact fiOk_no4 (by assumption) | exact fiOk_no4 (szOk_no1 (by assumption)).symm | exact fiOk_no4 (szOk_no2 (by assumption)).symm | exact fiOk_no4 (szOk_no3 (by assumption)).symm | exact fiOk_no4 (szOk_no4 (by omega))); exact ⟨(none, 0), by simp only [fiF_no hs, fiS_no hs, fiI_no hs, fiL_no hs, hs]; rfl, hw.below, by rw [fiL_no hs]; simp [vl, Ent.at], List.pairwise_singleton _ _⟩)
    · skip
      replace h3 := bnot_f h3
      refine VL.r (.inr ⟨_, _, _, rfl, rfl, rfl⟩) rfl (by decide) (yr_move rfl rfl) ?_
      refine VL.q (.inr ⟨_, _, _, rfl, rfl, rfl⟩) rfl (by decide) (yq_callf rfl known118_Fill (.cons rfl .nil) (fun w hw => c_l02Size _)) ?_
      refine VL.r (.inr ⟨_, _, _, rfl, rfl, rfl⟩) rfl (by decide) (yr_not rfl rfl) ?_
      refine VL.r (.inl rfl) rfl (by decide) (yr_pick_f rfl rfl rfl) ?_
      refine VL.r (.inl rfl) rfl (by decide) (yr_move rfl rfl) ?_
      refine VX.split 31 _ rfl (fun h5 => ?_) (fun h5 => ?_)
      · skip
        replace h5 := bnot_t h5
        refine VL.no rfl rfl rfl rfl rfl (by decide) ?_
        refine VL.no rfl rfl rfl rfl rfl (by decide) ?_
        refine VL.no rfl rfl rfl rfl rfl (by decide) ?_
        refine VL.no rfl rfl rfl rfl rfl (by decide) ?_
        refine VL.no rfl rfl rfl rfl rfl (by decide) ?_
        refine VL.r (.inl rfl) rfl (by decide) (yr_pick_t (u := .bool true) rfl rfl rfl) ?_
        refine VL.nil ?_
        refine VE.then_wp ?_
        refine V.condT rfl ?_
        refine V.seq ?_
        refine V.region ?_
        refine VL.r (.inl rfl) rfl (by decide) (yr_build rfl lay35_Fill rfl .nil (by first | (simp; done) | (simp [vv]; done) | (simp [cn, cn1, cn0]; done)) rfl) ?_
        refine VL.s (.inl rfl) rfl (yc_store rfl sz35_Fill rfl rfl (by repeat (first | exact UpdF.here | apply UpdF.there | apply UpdF.thereS)) (.inr ⟨rfl, rfl⟩) rfl (by first | exact Nat.le_of_ble_eq_true rfl | simp) (by decide) rfl) ?_
        rintro ⟨⟩
        refine VL.r (.inl rfl) rfl (by decide) (yr_assign (u := .bool false) rfl rfl) ?_
        refine VL.nil ?_
        refine VE.then_wp ?_
        refine V.ret ?_
        refine VE.then_ret ?_
        refine retN rfl (.cons (rv_cellS rfl Try.underlying35 sz35_Fill (by first | exact Sees.root (by assumption) | exact Sees.own (by repeat (first | exact List.mem_cons_self | exact List.mem_append_left _ (by assumption) | apply List.mem_cons_of_mem | apply List.mem_append_right)) | exact Sees.root (hR _ (by omega)) | exact Sees.own (RowsIn.mem (by repeat (first | exact RowsIn.here | exact RowsIn.last | apply RowsIn.there | apply RowsIn.thereS)) _ (by omega)) | exact Sees.own (WRowsIn.mem (by repeat (first | exact WRowsIn.here | exact WRowsIn.last | apply WRowsIn.there | apply WRowsIn.thereS)) _ (by omega))) rfl rfl rfl) (.cons (rv_tmp rfl (by nofun)) .nil)) (by nofun) (fun w1 hw => ?_)
        first
          | (obtain rfl : k = W * H * D := by omega
             have hk9 : okK ws (f1, f2, f3) st (W : Int).toNat (H : Int).toNat ((W : Int).toNat * (H : Int).toNat * (D : Int).toNat) = true := hak
             ((have hs : fiOk ws (f1, f2, f3) st (W : Int) (H : Int) (D : Int) = true := fiOk_yes (by assumption) (by assumption) (by assumption) (by assumption) (by assumption)); exact ⟨(ar, cr), by simp only [fiF_yes hs, fiS_yes hs, fiI_yes hs, fiL_yes hs, hs, fiK_length]; rfl, by rw [fiL_yes hs]; exact (hw.pick (by apply Pick.one; repeat (first | exact Rem.here | apply Rem.there))).out1⟩))
          | ((have hs : fiOk ws (f1, f2, f3) st (W : Int) (H : Int) (D : Int) = false := by first | exact fiOk_no5 (okK_mono (a := k + 1) (by show k + 1 ≤ W * H * D; omega) (by rw [okK]; show (_ && okN ws (f1, f2, f3) st W H k) = false; rw [hfo, Bool.and_false]))); exact ⟨(none, 0), by simp only [fiF_no hs, fiS_no hs, fiI_no hs, fiL_no hs, hs]; rfl, hw.below, by rw [fiL_no hs]; simp [vl, Ent.at], List.pairwise_singleton _ _⟩)
          | ((have hs : fiOk ws (f1, f2, f3) st wi hi de = false := by first | exact fiOk_no1 (by assumption) | exact fiOk_no2 (by assumption) | exact fiOk_no3 (by assumption) | exact fiOk_no4 (by assumption) | exact fiOk_no4 (szOk_no1 (by assumption)).symm | exact fiOk_no4 (szOk_no2 (by assumption)).symm | exact fiOk_no4 (szOk_no3 (by assumption)).symm | exact fiOk_no4 (szOk_no4 (by omega))); exact ⟨(none, 0), by simp only [fiF_no hs, fiS_no hs, fiI_no hs, fiL_no hs, hs]; rfl, hw.below, by rw [fiL_no hs]; simp [vl, Ent.at], List.pairwise_singleton _ _⟩)
      · skip
        replace h5 := bnot_f h5
        refine VL.r (.inr ⟨_, _, _, rfl, rfl, rfl⟩) rfl (by decide) (yr_move rfl rfl) ?_
        refine VL.r (.inr ⟨_, _, _, rfl, rfl, rfl⟩) rfl (by decide) (yr_move rfl rfl) ?_
        refine VL.r (.inr ⟨_, _, _, rfl, rfl, rfl⟩) rfl (by decide) (yr_move rfl rfl) ?_
        refine VL.q (.inr ⟨_, _, _, rfl, rfl, rfl⟩) rfl (by decide) (yq_callf rfl known119_Fill (.cons rfl (.cons rfl (.cons rfl .nil))) (fun w hw => c_l06Sizes)) ?_
        refine VL.r (.inr ⟨_, _, _, rfl, rfl, rfl⟩) rfl (by decide) (yr_not rfl rfl) ?_
        refine VL.r (.inl rfl) rfl (by decide) (yr_pick_f rfl rfl rfl) ?_
        refine VL.nil ?_
        refine VE.then_wp ?_
        refine V.cond rfl (fun h7 => ?_) (fun h7 => ?_)
        · skip
          replace h7 := bnot_t h7
          refine V.seq ?_
          refine V.region ?_
          refine VL.r (.inl rfl) rfl (by decide) (yr_build rfl lay35_Fill rfl .nil (by first | (simp; done) | (simp [vv]; done) | (simp [cn, cn1, cn0]; done)) rfl) ?_
          refine VL.s (.inl rfl) rfl (yc_store rfl sz35_Fill rfl rfl (by repeat (first | exact UpdF.here | apply UpdF.there | apply UpdF.thereS)) (.inr ⟨rfl, rfl⟩) rfl (by first | exact Nat.le_of_ble_eq_true rfl | simp) (by decide) rfl) ?_
          rintro ⟨⟩
          refine VL.r (.inl rfl) rfl (by decide) (yr_assign (u := .bool false) rfl rfl) ?_
          refine VL.nil ?_
          refine VE.then_wp ?_
          refine V.ret ?_
          refine VE.then_ret ?_
          refine retN rfl (.cons (rv_cellS rfl Try.underlying35 sz35_Fill (by first | exact Sees.root (by assumption) | exact Sees.own (by repeat (first | exact List.mem_cons_self | exact List.mem_append_left _ (by assumption) | apply List.mem_cons_of_mem | apply List.mem_append_right)) | exact Sees.root (hR _ (by omega)) | exact Sees.own (RowsIn.mem (by repeat (first | exact RowsIn.here | exact RowsIn.last | apply RowsIn.there | apply RowsIn.thereS)) _ (by omega)) | exact Sees.own (WRowsIn.mem (by repeat (first | exact WRowsIn.here | exact WRowsIn.last | apply WRowsIn.there | apply WRowsIn.thereS)) _ (by omega))) rfl rfl rfl) (.cons (rv_tmp rfl (by nofun)) .nil)) (by nofun) (fun w1 hw => ?_)
          first
            | (obtain rfl : k = W * H * D := by omega
               have hk9 : okK ws (f1, f2, f3) st (W : Int).toNat (H : Int).toNat ((W : Int).toNat * (H : Int).toNat * (D : Int).toNat) = true := hak
               ((have hs : fiOk ws (f1, f2, f3) st (W : Int) (H : Int) (D : Int) = true := fiOk_yes (by assumption) (by assumption) (by assumption) (by assumption) (by assumption)); exact ⟨(ar, cr), by simp only [fiF_yes hs, fiS_yes hs, fiI_yes hs, fiL_yes hs, hs, fiK_length]; rfl, by rw [fiL_yes hs]; exact (hw.pick (by apply Pick.one; repeat (first | exact Rem.here | apply Rem.there))).out1⟩))
            | ((have hs : fiOk ws (f1, f2, f3) st (W : Int) (H : Int) (D : Int) = false := by first | exact fiOk_no5 (okK_mono (a := k + 1) (by show k + 1 ≤ W * H * D; omega) (by rw [okK]; show (_ && okN ws (f1, f2, f3) st W H k) = false; rw [hfo, Bool.and_false]))); exact ⟨(none, 0), by simp only [fiF_no hs, fiS_no hs, fiI_no hs, fiL_no hs, hs]; rfl, hw.below, by rw [fiL_no hs]; simp [vl, Ent.at], List.pairwise_singleton _ _⟩)
            | ((have hs : fiOk ws (f1, f2, f3) st wi hi de = false := by first | exact fiOk_no1 (by assumption) | exact fiOk_no2 (by assumption) | exact fiOk_no3 (by assumption) | exact fiOk_no4 (by assumption) | exact fiOk_no4 (szOk_no1 (by assumption)).symm | exact fiOk_no4 (szOk_no2 (by assumption)).symm | exact fiOk_no4 (szOk_no3 (by assumption)).symm | exact fiOk_no4 (szOk_no4 (by omega))); exact ⟨(none, 0), by simp only [fiF_no hs, fiS_no hs, fiI_no hs, fiL_no hs, hs]; rfl, hw.below, by rw [fiL_no hs]; simp [vl, Ent.at], List.pairwise_singleton _ _⟩)
        · skip
          replace h7 := bnot_f h7
          have hsz : szOk wi hi de = true := by assumption
          obtain ⟨W, H, D, rfl, rfl, rfl, q1, q2, q3, q4, q5, q6, hbd⟩ := szOk_is hsz
          have hWH : W * H ≤ 216 := Nat.le_trans (Nat.le_mul_of_pos_right _ q3) hbd
          refine V.skip ?_
          refine VE.then_wp ?_
          refine V.seq ?_
          refine V.region ?_
          refine VL.q (.inl rfl) rfl (by decide) (yq_loadS rfl Try.underlying32 sz32_Fill rfl (by first | exact Sees.root (by assumption) | exact Sees.own (by repeat (first | exact List.mem_cons_self | exact List.mem_append_left _ (by assumption) | apply List.mem_cons_of_mem | apply List.mem_append_right)) | exact Sees.root (hR _ (by omega)) | exact Sees.own (RowsIn.mem (by repeat (first | exact RowsIn.here | exact RowsIn.last | apply RowsIn.there | apply RowsIn.thereS)) _ (by omega)) | exact Sees.own (WRowsIn.mem (by repeat (first | exact WRowsIn.here | exact WRowsIn.last | apply WRowsIn.there | apply WRowsIn.thereS)) _ (by omega))) rfl rfl rfl) ?_
          refine VL.r (.inl rfl) rfl (by decide) (yr_move rfl rfl) ?_
          refine VL.r (.inl rfl) rfl (by decide) (yr_move rfl rfl) ?_
          refine VL.r (.inl rfl) rfl (by decide) (yr_move rfl rfl) ?_
          refine VL.r (.inl rfl) rfl (by decide) (yr_move rfl rfl) ?_
          refine VL.new1 (.inl rfl) rfl (by decide) (yn_buildSlice rfl Try.underlying33 elt32_Fill rfl (by decide) .nil (by simp) rfl rfl) ?_
          intro b44
          refine VL.r (.inl rfl) rfl (by decide) (yr_build rfl lay35_Fill rfl (.cons rfl (.cons rfl (.cons rfl (.cons rfl (.cons rfl (.cons rfl .nil)))))) (by first | (simp; done) | (simp [vv]; done) | (simp [cn, cn1, cn0]; done)) rfl) ?_
          refine VL.new1 (.inl rfl) rfl (by decide) (yn_alloc rfl zero35_Fill rfl) ?_
          intro b14
          refine VL.s (.inl rfl) rfl (yc_store rfl sz35_Fill rfl rfl (by repeat (first | exact UpdF.here | apply UpdF.there | apply UpdF.thereS)) (.inr ⟨rfl, rfl⟩) rfl (by first | exact Nat.le_of_ble_eq_true rfl | simp) (by decide) rfl) ?_
          rintro ⟨⟩
          refine VL.nil ?_
          refine VE.then_wp ?_
          refine V.seq ?_
          refine V.seq ?_
          refine V.region ?_
          refine VL.r (.inl rfl) rfl (by decide) (yr_assign (u := .int .i64 0) rfl rfl) ?_
          refine VL.nil ?_
          refine VE.then_wp ?_
          refine V.block ?_
          refine V.loopc (G := Nat × (Option Addr) × Nat) [(0, _), (3, _), (4, _), (5, _), (12, _), (14, _)] (fun ⟨k, ar, cr⟩ => k ≤ W * H * D ∧ (okK ws (f1, f2, f3) st W H (k)) = true) (fun ⟨k, ar, cr⟩ => [⟨some ⟨b14, 0, none⟩, [.float .f32 f1, .float .f32 f2, .float .f32 f3, .float .f32 st, .int .i64 (W : Int), .int .i64 (H : Int), .int .i64 (D : Int), .slice ar (k) cr], 8, 35⟩, ⟨ar, vl (fiK ws (f1, f2, f3) st W H (k)), cr * 3, 32⟩, ⟨some ⟨b12, 0, none⟩, [.float .f32 0, .float .f32 0, .float .f32 0, .float .f32 0, .int .i64 0, .int .i64 0, .int .i64 0, .slice none 0 0], 8, 35⟩, ⟨some ⟨b7, 0, none⟩, [.float .f32 ((f1, f2, f3)).1, .float .f32 ((f1, f2, f3)).2.1, .float .f32 ((f1, f2, f3)).2.2], 3, 32⟩]) (fun ⟨k, ar, cr⟩ => [(15, .int .i64 (k : Int))]) (fun ⟨k, ar, cr⟩ => W * H * D - k) (0, some ⟨b44, 0, none⟩, 0) (.cons rfl (.cons rfl (.cons rfl (.cons rfl (.cons rfl (.cons rfl .nil)))))) (.cons rfl .nil) ?_ ?_ ?_
          · exact (fun w hw => hw)
          · exact (by exact ⟨Nat.zero_le _, rfl⟩)
          rintro ⟨k, ar, cr⟩ ⟨hk, hak⟩
          show V _ _ _ [⟨some ⟨b14, 0, none⟩, [.float .f32 f1, .float .f32 f2, .float .f32 f3, .float .f32 st, .int .i64 (W : Int), .int .i64 (H : Int), .int .i64 (D : Int), .slice ar (k) cr], 8, 35⟩, ⟨ar, vl (fiK ws (f1, f2, f3) st W H (k)), cr * 3, 32⟩, ⟨some ⟨b12, 0, none⟩, [.float .f32 0, .float .f32 0, .float .f32 0, .float .f32 0, .int .i64 0, .int .i64 0, .int .i64 0, .slice none 0 0], 8, 35⟩, ⟨some ⟨b7, 0, none⟩, [.float .f32 ((f1, f2, f3)).1, .float .f32 ((f1, f2, f3)).2.1, .float .f32 ((f1, f2, f3)).2.2], 3, 32⟩] ([(15, .int .i64 (k : Int))] ++ [(0, _), (3, _), (4, _), (5, _), (12, _), (14, _)]) _ _
          have hkW := Nat.div_le_self k W
          have hWH := hWH
          refine V.seq ?_
          refine V.seq ?_
          refine V.region ?_
          refine VL.r (.inl rfl) rfl (by decide) (yr_move rfl rfl) ?_
          refine VL.r (.inl rfl) rfl (by decide) (yr_move rfl rfl) ?_
          refine VL.r (.inl rfl) rfl (by decide) (yr_move rfl rfl) ?_
          refine VL.r (.inl rfl) rfl (by decide) (yr_mulN W H rfl rfl rfl (by omega) (by omega) (Nat.le_trans (by first | exact hWH | exact hbd) (by decide))) ?_
          refine VL.r (.inl rfl) rfl (by decide) (yr_move rfl rfl) ?_
          refine VL.r (.inl rfl) rfl (by decide) (yr_mulN (W * H) D rfl rfl rfl (by omega) (by omega) (Nat.le_trans (by first | exact hWH | exact hbd) (by decide))) ?_
          refine VL.r (.inl rfl) rfl (by decide) (yr_icmp rfl (.inr (.inr (.inl rfl))) rfl rfl) ?_
          refine VL.nil ?_
          refine VE.then_wp ?_
          refine V.cond rfl (fun h8 => ?_) (fun h8 => ?_)
          · skip
            replace h8 := ic_lss h8
            refine V.skip ?_
            refine VE.then_wp ?_
            refine V.seq ?_
            refine V.block ?_
            refine V.seq ?_
            refine Dr.V.drawR [(0, 5), (1, 5), (2, 5), (3, 5), (4, 5), (5, 5), (6, 5), (7, 5), (8, 5), (9, 5), (10, 5), (11, 5), (12, 5), (13, 5), (14, 5), (15, 5), (16, 5), (17, 2), (18, 3)] [(17, ((fun b => .pointer (some (adr (some ⟨b, 0, none⟩) 0))), (fun b => ⟨some ⟨b, 0, none⟩, [Value.float .f32 0, Value.float .f32 0, Value.float .f32 0], 3, 32⟩)))] [] _ mixed_Fill (by kernel_rfl) (fun w hw => hw) ?_
            refine Dr.SW.r rfl (.inl rfl) rfl (by decide) (yr_move rfl rfl) ?_
            refine Dr.SW.r rfl (.inl rfl) rfl (by decide) (yr_move rfl rfl) ?_
            refine Dr.SW.r rfl (.inl rfl) rfl (by decide) (yr_remN (k) W rfl rfl rfl rfl rfl (by omega)) ?_
            refine Dr.SW.r rfl (.inl rfl) rfl (by decide) (yr_ofInt rfl Try.underlying2 Try.underlying22 rfl) ?_
            refine Dr.SW.r rfl (.inl rfl) rfl (by decide) (yr_move rfl rfl) ?_
            refine Dr.SW.r rfl (.inl rfl) rfl (by decide) (yr_move rfl rfl) ?_
            refine Dr.SW.r rfl (.inl rfl) rfl (by decide) (yr_quoN (k) W rfl rfl rfl rfl rfl (by omega) (by omega)) ?_
            refine Dr.SW.r rfl (.inl rfl) rfl (by decide) (yr_move rfl rfl) ?_
            refine Dr.SW.r rfl (.inl rfl) rfl (by decide) (yr_remN (k / W) H rfl rfl rfl rfl rfl (by omega)) ?_
            refine Dr.SW.r rfl (.inl rfl) rfl (by decide) (yr_ofInt rfl Try.underlying2 Try.underlying22 rfl) ?_
            refine Dr.SW.r rfl (.inl rfl) rfl (by decide) (yr_move rfl rfl) ?_
            refine Dr.SW.r rfl (.inl rfl) rfl (by decide) (yr_move rfl rfl) ?_
            refine Dr.SW.r rfl (.inl rfl) rfl (by decide) (yr_quoN (k) W rfl rfl rfl rfl rfl (by omega) (by omega)) ?_
            refine Dr.SW.r rfl (.inl rfl) rfl (by decide) (yr_move rfl rfl) ?_
            refine Dr.SW.r rfl (.inl rfl) rfl (by decide) (yr_quoN (k / W) H rfl rfl rfl rfl rfl (by omega) (by omega)) ?_
            refine Dr.SW.r rfl (.inl rfl) rfl (by decide) (yr_ofInt rfl Try.underlying2 Try.underlying22 rfl) ?_
            refine Dr.SW.p rfl (.inl rfl) rfl (by decide) (yq_callf rfl known120_Fill (.cons rfl (.cons rfl (.cons rfl (.cons rfl .nil)))) (fun w hw => (c_l06Place (by first | exact Sees.root (by assumption) w hw | exact Sees.own (by (try simp only [List.append_assoc, List.cons_append, List.nil_append]); repeat (first | exact List.mem_cons_self | exact List.mem_append_left _ (by assumption) | apply List.mem_cons_of_mem | apply List.mem_append_right)) w hw)))) ?_
            refine Dr.SW.a rfl rfl rfl (by decide) rfl (fun w0 => (yn_alloc rfl zero32_Fill rfl)) ?_
            intro b16
            refine Dr.SW.s rfl (.inl rfl) rfl (yc_store rfl sz32_Fill rfl rfl (Dr.UpdF.app (by repeat (first | exact UpdF.here | apply UpdF.there | apply UpdF.thereS))) (.inr ⟨rfl, rfl⟩) rfl (by first | exact Nat.le_of_ble_eq_true rfl | simp) (by decide) rfl) ?_
            rintro ⟨⟩
            refine Dr.SW.done ?_
            refine Dr.eqO (by simp only [List.append_nil, List.append_assoc, List.cons_append, List.nil_append] <;> rfl) ?_
            refine VE.then_wp ?_
            refine V.seq ?_
            refine V.region ?_
            refine VL.r (.inl rfl) rfl (by decide) (yr_move rfl rfl) ?_
            refine VL.q (.inl rfl) rfl (by decide) (yq_loadS rfl Try.underlying32 sz32_Fill rfl (by first | exact Sees.root (by assumption) | exact Sees.own (by repeat (first | exact List.mem_cons_self | exact List.mem_append_left _ (by assumption) | apply List.mem_cons_of_mem | apply List.mem_append_right)) | exact Sees.root (hR _ (by omega)) | exact Sees.own (RowsIn.mem (by repeat (first | exact RowsIn.here | exact RowsIn.last | apply RowsIn.there | apply RowsIn.thereS)) _ (by omega)) | exact Sees.own (WRowsIn.mem (by repeat (first | exact WRowsIn.here | exact WRowsIn.last | apply WRowsIn.there | apply WRowsIn.thereS)) _ (by omega))) rfl rfl rfl) ?_
            refine VL.q (.inl rfl) rfl (by decide) (yq_callf rfl known121_Fill (.cons rfl (.cons rfl .nil)) (fun w hw => (c_l02All (p1 := (plc (f1, f2, f3) st W H k).1) (p2 := (plc (f1, f2, f3) st W H k).2.1) (p3 := (plc (f1, f2, f3) st W H k).2.2) (by first | exact Sees.root (by assumption) w hw | exact Sees.own (by repeat (first | exact List.mem_cons_self | exact List.mem_append_left _ (by assumption) | apply List.mem_cons_of_mem | apply List.mem_append_right)) w hw) (by first | exact WRws.root (by assumption) hw | exact WRws.own (by repeat (first | exact WRowsIn.here | exact WRowsIn.last | apply WRowsIn.there | apply WRowsIn.thereS)) hw) (by omega) (by assumption)))) ?_
            refine VL.new1 (.inl rfl) rfl (by decide) (yn_alloc rfl zero32_Fill rfl) ?_
            intro b17
            refine VL.s (.inl rfl) rfl (yc_store rfl sz32_Fill rfl rfl (by repeat (first | exact UpdF.here | apply UpdF.there | apply UpdF.thereS)) (.inr ⟨rfl, rfl⟩) rfl (by first | exact Nat.le_of_ble_eq_true rfl | simp) (by decide) rfl) ?_
            rintro ⟨⟩
            refine VL.nil ?_
            refine VE.then_wp ?_
            refine V.seq ?_
            refine V.seq ?_
            refine V.region ?_
            refine VL.q (.inl rfl) rfl (by decide) (yq_loadS rfl Try.underlying32 sz32_Fill rfl (by first | exact Sees.root (by assumption) | exact Sees.own (by repeat (first | exact List.mem_cons_self | exact List.mem_append_left _ (by assumption) | apply List.mem_cons_of_mem | apply List.mem_append_right)) | exact Sees.root (hR _ (by omega)) | exact Sees.own (RowsIn.mem (by repeat (first | exact RowsIn.here | exact RowsIn.last | apply RowsIn.there | apply RowsIn.thereS)) _ (by omega)) | exact Sees.own (WRowsIn.mem (by repeat (first | exact WRowsIn.here | exact WRowsIn.last | apply WRowsIn.there | apply WRowsIn.thereS)) _ (by omega))) rfl rfl rfl) ?_
            refine VL.q (.inl rfl) rfl (by decide) (yq_callf rfl known117_Fill (.cons rfl .nil) (fun w hw => c_fin3S)) ?_
            refine VL.r (.inl rfl) rfl (by decide) (yr_not rfl rfl) ?_
            refine VL.nil ?_
            refine VE.then_wp ?_
            refine V.cond rfl (fun h9 => ?_) (fun h9 => ?_)
            · skip
              replace h9 := bnot_t h9
              have hfo : okN ws (f1, f2, f3) st W H k = false := by unfold okN; rw [← fieldS_ok]; exact h9
              refine V.seq ?_
              refine V.region ?_
              refine VL.r (.inl rfl) rfl (by decide) (yr_build rfl lay35_Fill rfl .nil (by first | (simp; done) | (simp [vv]; done) | (simp [cn, cn1, cn0]; done)) rfl) ?_
              refine VL.s (.inl rfl) rfl (yc_store rfl sz35_Fill rfl rfl (by repeat (first | exact UpdF.here | apply UpdF.there | apply UpdF.thereS)) (.inr ⟨rfl, rfl⟩) rfl (by first | exact Nat.le_of_ble_eq_true rfl | simp) (by decide) rfl) ?_
              rintro ⟨⟩
              refine VL.r (.inl rfl) rfl (by decide) (yr_assign (u := .bool false) rfl rfl) ?_
              refine VL.nil ?_
              refine VE.then_wp ?_
              refine V.ret ?_
              refine VE.then_ret ?_
              refine VE.block_ret ?_
              refine VE.then_ret ?_
              refine VE.then_ret ?_
              refine VE.block_ret ?_
              refine VE.then_ret ?_
              refine retN rfl (.cons (rv_cellS rfl Try.underlying35 sz35_Fill (by first | exact Sees.root (by assumption) | exact Sees.own (by repeat (first | exact List.mem_cons_self | exact List.mem_append_left _ (by assumption) | apply List.mem_cons_of_mem | apply List.mem_append_right)) | exact Sees.root (hR _ (by omega)) | exact Sees.own (RowsIn.mem (by repeat (first | exact RowsIn.here | exact RowsIn.last | apply RowsIn.there | apply RowsIn.thereS)) _ (by omega)) | exact Sees.own (WRowsIn.mem (by repeat (first | exact WRowsIn.here | exact WRowsIn.last | apply WRowsIn.there | apply WRowsIn.thereS)) _ (by omega))) rfl rfl rfl) (.cons (rv_tmp rfl (by nofun)) .nil)) (by nofun) (fun w1 hw => ?_)
              first
                | (obtain rfl : k = W * H * D := by omega
                   have hk9 : okK ws (f1, f2, f3) st (W : Int).toNat (H : Int).toNat ((W : Int).toNat * (H : Int).toNat * (D : Int).toNat) = true := hak
                   ((have hs : fiOk ws (f1, f2, f3) st (W : Int) (H : Int) (D : Int) = true := fiOk_yes (by assumption) (by assumption) (by assumption) (by assumption) (by assumption)); exact ⟨(ar, cr), by simp only [fiF_yes hs, fiS_yes hs, fiI_yes hs, fiL_yes hs, hs, fiK_length]; rfl, by rw [fiL_yes hs]; exact (hw.pick (by apply Pick.one; repeat (first | exact Rem.here | apply Rem.there))).out1⟩))
                | ((have hs : fiOk ws (f1, f2, f3) st (W : Int) (H : Int) (D : Int) = false := by first | exact fiOk_no5 (okK_mono (a := k + 1) (by show k + 1 ≤ W * H * D; omega) (by rw [okK]; show (_ && okN ws (f1, f2, f3) st W H k) = false; rw [hfo, Bool.and_false]))); exact ⟨(none, 0), by simp only [fiF_no hs, fiS_no hs, fiI_no hs, fiL_no hs, hs]; rfl, hw.below, by rw [fiL_no hs]; simp [vl, Ent.at], List.pairwise_singleton _ _⟩)
                | ((have hs : fiOk ws (f1, f2, f3) st wi hi de = false := by first | exact fiOk_no1 (by assumption) | exact fiOk_no2 (by assumption) | exact fiOk_no3 (by assumption) | exact fiOk_no4 (by assumption) | exact fiOk_no4 (szOk_no1 (by assumption)).symm | exact fiOk_no4 (szOk_no2 (by assumption)).symm | exact fiOk_no4 (szOk_no3 (by assumption)).symm | exact fiOk_no4 (szOk_no4 (by omega))); exact ⟨(none, 0), by simp only [fiF_no hs, fiS_no hs, fiI_no hs, fiL_no hs, hs]; rfl, hw.below, by rw [fiL_no hs]; simp [vl, Ent.at], List.pairwise_singleton _ _⟩)
            · skip
              replace h9 := bnot_f h9
              have hfo : okN ws (f1, f2, f3) st W H k = true := by unfold okN; rw [← fieldS_ok]; exact h9
              have hpf : fin3 (plc (f1, f2, f3) st W H k) = true := by unfold okN at hfo; rw [Bool.and_eq_true] at hfo; exact hfo.1
              refine V.skip ?_
              refine VE.then_wp ?_
              refine V.region ?_
              refine VL.r (.inl rfl) rfl (by decide) (yr_fieldAddr rfl Try.underlying35 rfl rfl sz33_Fill (by decide) rfl) ?_
              refine VL.q (.inl rfl) rfl (by decide) (yq_load rfl fb33_Fill rfl (by first | exact Sees.root (by assumption) | exact Sees.own (by repeat (first | exact List.mem_cons_self | exact List.mem_append_left _ (by assumption) | apply List.mem_cons_of_mem | apply List.mem_append_right)) | exact Sees.root (hR _ (by omega)) | exact Sees.own (RowsIn.mem (by repeat (first | exact RowsIn.here | exact RowsIn.last | apply RowsIn.there | apply RowsIn.thereS)) _ (by omega)) | exact Sees.own (WRowsIn.mem (by repeat (first | exact WRowsIn.here | exact WRowsIn.last | apply WRowsIn.there | apply WRowsIn.thereS)) _ (by omega))) rfl) ?_
              refine VL.q (.inl rfl) rfl (by decide) (yq_loadS rfl Try.underlying32 sz32_Fill rfl (by first | exact Sees.root (by assumption) | exact Sees.own (by repeat (first | exact List.mem_cons_self | exact List.mem_append_left _ (by assumption) | apply List.mem_cons_of_mem | apply List.mem_append_right)) | exact Sees.root (hR _ (by omega)) | exact Sees.own (RowsIn.mem (by repeat (first | exact RowsIn.here | exact RowsIn.last | apply RowsIn.there | apply RowsIn.thereS)) _ (by omega)) | exact Sees.own (WRowsIn.mem (by repeat (first | exact WRowsIn.here | exact WRowsIn.last | apply WRowsIn.there | apply WRowsIn.thereS)) _ (by omega))) rfl rfl rfl) ?_
              refine VL.new1 (.inl rfl) rfl (by decide) (yn_buildSlice rfl Try.underlying33 elt32_Fill rfl (by decide) (.cons rfl .nil) (by simp) rfl rfl) ?_
              intro b82
              refine VL.c (.inl rfl) rfl (by decide) (yc_appendz 3 rfl rfl Try.underlying33 elt32_Fill rfl rfl (by repeat (first | exact UpdF.here | apply UpdF.there | apply UpdF.thereS)) (by first | exact Sees.root (by assumption) | exact Sees.own (by repeat (first | exact List.mem_cons_self | exact List.mem_append_left _ (by assumption) | apply List.mem_cons_of_mem | apply List.mem_append_right)) | exact Sees.root (hR _ (by omega)) | exact Sees.own (RowsIn.mem (by repeat (first | exact RowsIn.here | exact RowsIn.last | apply RowsIn.there | apply RowsIn.thereS)) _ (by omega)) | exact Sees.own (WRowsIn.mem (by repeat (first | exact WRowsIn.here | exact WRowsIn.last | apply WRowsIn.there | apply WRowsIn.thereS)) _ (by omega))) rfl (by rw [vl_length, fiK_length]) rfl (vl_scal _) rfl (by omega) (by omega)) ?_
              rintro ⟨a83, c83⟩
              refine VL.r (.inl rfl) rfl (by decide) (yr_fieldAddr rfl Try.underlying35 rfl rfl sz33_Fill (by decide) rfl) ?_
              refine VL.s (.inl rfl) rfl (yc_store rfl sz33_Fill rfl rfl (by repeat (first | exact UpdF.here | apply UpdF.there | apply UpdF.thereS)) (.inl ⟨rfl, rfl⟩) rfl (by first | exact Nat.le_of_ble_eq_true rfl | simp) (by decide) rfl) ?_
              rintro ⟨⟩
              refine VL.nil ?_
              refine VE.block_normal ?_
              refine VE.then_wp ?_
              refine V.region ?_
              refine VL.r (.inl rfl) rfl (by decide) (yr_move rfl rfl) ?_
              refine VL.r (.inl rfl) rfl (by decide) (yr_int rfl rfl rfl (.inl ⟨rfl, wrap_in (by omega)⟩)) ?_
              refine VL.r (.inl rfl) rfl (by decide) (yr_assign rfl rfl) ?_
              refine VL.nil ?_
              refine VE.round (k + 1, a83, c83) ?_ ?_ ?_ ?_ ?_
              · exact (.cons rfl .nil)
              · exact (.cons rfl (.cons rfl (.cons rfl (.cons rfl (.cons rfl (.cons rfl .nil))))))
              · exact (fun w hw => by
                  have h9 := hw.sub ((List.sublist_cons_self _ _).trans ((List.sublist_cons_self _ _).trans (List.sublist_cons_self _ _)))
                  dsimp only
                  rw [← fiK_snoc, ← fieldS_fin hpf]
                  exact h9)
              · exact ⟨by omega, by rw [okK, hak, hfo]; rfl⟩
              · (try dsimp only); omega
          · skip
            replace h8 := ic_lss' h8
            refine V.exit ?_
            refine VE.then_exit ?_
            refine VE.then_exit ?_
            refine VE.block_here ?_
            refine VE.then_wp ?_
            refine V.seq ?_
            refine V.region ?_
            refine VL.q (.inl rfl) rfl (by decide) (yq_loadS rfl Try.underlying35 sz35_Fill rfl (by first | exact Sees.root (by assumption) | exact Sees.own (by repeat (first | exact List.mem_cons_self | exact List.mem_append_left _ (by assumption) | apply List.mem_cons_of_mem | apply List.mem_append_right)) | exact Sees.root (hR _ (by omega)) | exact Sees.own (RowsIn.mem (by repeat (first | exact RowsIn.here | exact RowsIn.last | apply RowsIn.there | apply RowsIn.thereS)) _ (by omega)) | exact Sees.own (WRowsIn.mem (by repeat (first | exact WRowsIn.here | exact WRowsIn.last | apply WRowsIn.there | apply WRowsIn.thereS)) _ (by omega))) rfl rfl rfl) ?_
            refine VL.s (.inl rfl) rfl (yc_store rfl sz35_Fill rfl rfl (by repeat (first | exact UpdF.here | apply UpdF.there | apply UpdF.thereS)) (.inr ⟨rfl, rfl⟩) rfl (by first | exact Nat.le_of_ble_eq_true rfl | simp) (by decide) rfl) ?_
            rintro ⟨⟩
            refine VL.r (.inl rfl) rfl (by decide) (yr_assign (u := .bool true) rfl rfl) ?_
            refine VL.nil ?_
            refine VE.then_wp ?_
            refine V.ret ?_
            refine retN rfl (.cons (rv_cellS rfl Try.underlying35 sz35_Fill (by first | exact Sees.root (by assumption) | exact Sees.own (by repeat (first | exact List.mem_cons_self | exact List.mem_append_left _ (by assumption) | apply List.mem_cons_of_mem | apply List.mem_append_right)) | exact Sees.root (hR _ (by omega)) | exact Sees.own (RowsIn.mem (by repeat (first | exact RowsIn.here | exact RowsIn.last | apply RowsIn.there | apply RowsIn.thereS)) _ (by omega)) | exact Sees.own (WRowsIn.mem (by repeat (first | exact WRowsIn.here | exact WRowsIn.last | apply WRowsIn.there | apply WRowsIn.thereS)) _ (by omega))) rfl rfl rfl) (.cons (rv_tmp rfl (by nofun)) .nil)) (by nofun) (fun w1 hw => ?_)
            first
              | (obtain rfl : k = W * H * D := by omega
                 have hk9 : okK ws (f1, f2, f3) st (W : Int).toNat (H : Int).toNat ((W : Int).toNat * (H : Int).toNat * (D : Int).toNat) = true := hak
                 ((have hs : fiOk ws (f1, f2, f3) st (W : Int) (H : Int) (D : Int) = true := fiOk_yes (by assumption) (by assumption) (by assumption) (by assumption) (by assumption)); exact ⟨(ar, cr), by simp only [fiF_yes hs, fiS_yes hs, fiI_yes hs, fiL_yes hs, hs, fiK_length]; rfl, by rw [fiL_yes hs]; exact (hw.pick (by apply Pick.one; repeat (first | exact Rem.here | apply Rem.there))).out1⟩))
              | ((have hs : fiOk ws (f1, f2, f3) st (W : Int) (H : Int) (D : Int) = false := by first | exact fiOk_no5 (okK_mono (a := k + 1) (by show k + 1 ≤ W * H * D; omega) (by rw [okK]; show (_ && okN ws (f1, f2, f3) st W H k) = false; rw [hfo, Bool.and_false]))); exact ⟨(none, 0), by simp only [fiF_no hs, fiS_no hs, fiI_no hs, fiL_no hs, hs]; rfl, hw.below, by rw [fiL_no hs]; simp [vl, Ent.at], List.pairwise_singleton _ _⟩)
              | ((have hs : fiOk ws (f1, f2, f3) st wi hi de = false := by first | exact fiOk_no1 (by assumption) | exact fiOk_no2 (by assumption) | exact fiOk_no3 (by assumption) | exact fiOk_no4 (by assumption) | exact fiOk_no4 (szOk_no1 (by assumption)).symm | exact fiOk_no4 (szOk_no2 (by assumption)).symm | exact fiOk_no4 (szOk_no3 (by assumption)).symm | exact fiOk_no4 (szOk_no4 (by omega))); exact ⟨(none, 0), by simp only [fiF_no hs, fiS_no hs, fiI_no hs, fiL_no hs, hs]; rfl, hw.below, by rw [fiL_no hs]; simp [vl, Ent.at], List.pairwise_singleton _ _⟩)

theorem law_FillMesh {w : World} {a : Option Addr} {c : Nat} {f : Nat → Option Addr × Nat} {ws : List Wr} {f1 f2 f3 st : Nat} {wi hi de : Int} (hA : Cl w a (whd f ws)) (hR : WRws w f ws) (hX : CansW ws) (hm : ws.length ≤ 9223372036854775807) (hr : ∀ i, i < ws.length → (ws.getD i zw).1.length ≤ 9223372036854775807) (hf : Can3 (f1, f2, f3)) (hst : Can .f32 st) : Pure Try.prog 9 [.slice a ws.length c, vv (f1, f2, f3), .float .f32 st, .int .i64 wi, .int .i64 hi, .int .i64 de] w (.bool true) := by
  refine Pure.enter Try.func9 rfl Try.ntmps9 (Nat.le_of_ble_eq_true rfl) ?_
  have hbu : wbulk ws = ws.length + wsum ws ws.length := rfl
  have hS1 := cans_fiL (ws := ws) (f := (f1, f2, f3)) (st := st) (wi := wi) (hi := hi) (de := de)
  have hS2 : Can3 ((fiF ws (f1, f2, f3) st wi hi de).1, (fiF ws (f1, f2, f3) st wi hi de).2.1, (fiF ws (f1, f2, f3) st wi hi de).2.2) := can_fiF hf
  have hS3 : Can .f32 (fiS ws (f1, f2, f3) st wi hi de) := can_fiS hst
  have hSl := fiL_length (ws := ws) (f := (f1, f2, f3)) (st := st) (wi := wi) (hi := hi) (de := de)
  refine V.seq ?_
  refine V.region ?_
  refine VL.new1 (.inl rfl) rfl (by decide) (yn_box rfl rfl (.inr ⟨rfl, rfl⟩)) ?_
  intro b7
  refine VL.r (.inl rfl) rfl (by decide) (yr_assign (u := .bool false) rfl rfl) ?_
  refine VL.nil ?_
  refine VE.then_wp ?_
  refine V.seq ?_
  refine V.region ?_
  refine VL.r (.inl rfl) rfl (by decide) (yr_assign (u := .int .i64 1048576) rfl rfl) ?_
  refine VL.nil ?_
  refine VE.then_wp ?_
  refine V.seq ?_
  refine V.region ?_
  refine VL.r (.inl rfl) rfl (by decide) (yr_move rfl rfl) ?_
  refine VL.r (.inl rfl) rfl (by decide) (yr_move rfl rfl) ?_
  refine VL.q (.inl rfl) rfl (by decide) (yq_callf rfl known43_Fill (.cons rfl (.cons rfl .nil)) (fun w hw => (c_szWs (by first | exact Sees.root (by assumption) w hw | exact Sees.own (by repeat (first | exact List.mem_cons_self | exact List.mem_append_left _ (by assumption) | apply List.mem_cons_of_mem | apply List.mem_append_right)) w hw) (by omega) (by omega) (by omega) (by assumption)))) ?_
  refine VL.r (.inl rfl) rfl (by decide) (yr_assign rfl rfl) ?_
  refine VL.nil ?_
  refine VE.then_wp ?_
  refine V.seq ?_
  refine V.seq ?_
  refine V.region ?_
  refine VL.r (.inl rfl) rfl (by decide) (yr_move rfl rfl) ?_
  refine VL.r (.inl rfl) rfl (by decide) (yr_icmp rfl (.inr (.inr (.inl rfl))) rfl rfl) ?_
  refine VL.nil ?_
  refine VE.then_wp ?_
  refine V.cond rfl (fun h1 => ?_) (fun h1 => ?_)
  · skip
    replace h1 := ic_lss h1
    refine V.seq ?_
    refine V.region ?_
    refine VL.r (.inl rfl) rfl (by decide) (yr_assign (u := .bool true) rfl rfl) ?_
    refine VL.nil ?_
    refine VE.then_wp ?_
    refine V.ret ?_
    refine VE.then_ret ?_
    refine ret1 rfl rfl (fun w1 hw => ?_)
    exact ⟨rfl, hw.below⟩
  · skip
    replace h1 := ic_lss' h1
    have hsz := szOf_fits h1
    refine V.skip ?_
    refine VE.then_wp ?_
    refine V.seq ?_
    refine Dr.V.drawR [(0, 5), (2, 5), (4, 5), (5, 5), (6, 5), (7, 5), (1, 1), (3, 5), (8, 1), (9, 5), (10, 5), (11, 5), (12, 2), (13, 3), (14, 5)] [(12, ((fun b => .pointer (some (adr (some ⟨b, 0, none⟩) 0))), (fun b => ⟨some ⟨b, 0, none⟩, [Value.float .f32 0, Value.float .f32 0, Value.float .f32 0, Value.float .f32 0, Value.int .i64 0, Value.int .i64 0, Value.int .i64 0, Value.slice none 0 0], 8, 35⟩)))] [] _ mixed_Fill (by kernel_rfl) (fun w hw => hw) ?_
    refine Dr.SW.r rfl (.inl rfl) rfl (by decide) (yr_move rfl rfl) ?_
    refine Dr.SW.p rfl (.inl rfl) rfl (by decide) (yq_loadS rfl Try.underlying24 sz24_Fill rfl (by first | exact Sees.root (by assumption) | exact Sees.own (by (try simp only [List.append_assoc, List.cons_append, List.nil_append]); repeat (first | exact List.mem_cons_self | exact List.mem_append_left _ (by assumption) | apply List.mem_cons_of_mem | apply List.mem_append_right)) | exact Sees.root (hR _ (by omega)) | exact Sees.own (RowsIn.mem (by (try simp only [List.append_assoc, List.cons_append, List.nil_append]); repeat (first | exact RowsIn.here | exact RowsIn.last | apply RowsIn.there | apply RowsIn.thereS)) _ (by omega)) | exact Sees.own (WRowsIn.mem (by (try simp only [List.append_assoc, List.cons_append, List.nil_append]); repeat (first | exact WRowsIn.here | exact WRowsIn.last | apply WRowsIn.there | apply WRowsIn.thereS)) _ (by omega))) rfl rfl rfl) ?_
    refine Dr.SW.r rfl (.inl rfl) rfl (by decide) (yr_move rfl rfl) ?_
    refine Dr.SW.r rfl (.inl rfl) rfl (by decide) (yr_move rfl rfl) ?_
    refine Dr.SW.r rfl (.inl rfl) rfl (by decide) (yr_move rfl rfl) ?_
    refine Dr.SW.r rfl (.inl rfl) rfl (by decide) (yr_move rfl rfl) ?_
    refine Dr.SW.new rfl (.inl rfl) rfl (by decide) (yn_callf rfl known45_Fill (.cons rfl .nil) (fun w hw => (c_toWs (by first | exact Sees.root (by assumption) w hw | exact Sees.own (by (try simp only [List.append_assoc, List.cons_append, List.nil_append]); repeat (first | exact List.mem_cons_self | exact List.mem_append_left _ (by assumption) | apply List.mem_cons_of_mem | apply List.mem_append_right)) w hw) (by first | exact WRws.root (by assumption) hw | exact WRws.own (by (try simp only [List.append_assoc, List.cons_append, List.nil_append]); repeat (first | exact WRowsIn.here | exact WRowsIn.last | apply WRowsIn.there | apply WRowsIn.thereS)) hw) (by omega)))) ?_
    rintro ⟨b31, f31⟩
    refine Dr.SW.p rfl (.inl rfl) rfl (by decide) (yq_callf rfl known46_Fill (.cons rfl .nil) (fun w hw => c_toVec)) ?_
    refine Dr.SW.new1 rfl (.inl rfl) rfl (by decide) (yn_callf rfl known44_Fill (.cons rfl (.cons rfl (.cons rfl (.cons rfl (.cons rfl (.cons rfl .nil)))))) (fun w hw => (c_specFill (by first | exact Sees.root (by assumption) w hw | exact Sees.own (by (try simp only [List.append_assoc, List.cons_append, List.nil_append]); repeat (first | exact List.mem_cons_self | exact List.mem_append_left _ (by assumption) | apply List.mem_cons_of_mem | apply List.mem_append_right)) w hw) (by first | exact WRws.root (by assumption) hw | exact WRws.own (by (try simp only [List.append_assoc, List.cons_append, List.nil_append]); repeat (first | exact WRowsIn.here | exact WRowsIn.last | apply WRowsIn.there | apply WRowsIn.thereS)) hw) (by omega)))) ?_
    rintro ⟨a38, c38⟩
    refine Dr.SW.r rfl (.inl rfl) rfl (by decide) (yr_move rfl rfl) ?_
    refine Dr.SW.r rfl (.inl rfl) rfl (by decide) (yr_extract rfl rfl rfl (by nofun)) ?_
    refine Dr.SW.r rfl (.inl rfl) rfl (by decide) (yr_extract rfl rfl rfl (by nofun)) ?_
    refine Dr.SW.a rfl rfl rfl (by decide) rfl (fun w0 => (yn_alloc rfl zero35_Fill rfl)) ?_
    intro b14
    refine Dr.SW.s rfl (.inl rfl) rfl (yc_store rfl sz35_Fill rfl rfl (Dr.UpdF.app (by repeat (first | exact UpdF.here | apply UpdF.there | apply UpdF.thereS))) (.inr ⟨rfl, rfl⟩) rfl (by first | exact Nat.le_of_ble_eq_true rfl | simp) (by decide) rfl) ?_
    rintro ⟨⟩
    refine Dr.SW.r rfl (.inl rfl) rfl (by decide) (yr_assign rfl rfl) ?_
    refine Dr.SW.done ?_
    refine Dr.eqO (by simp only [List.append_nil, List.append_assoc, List.cons_append, List.nil_append] <;> rfl) ?_
    refine VE.then_wp ?_
    refine V.seq ?_
    refine V.region ?_
    refine VL.r (.inl rfl) rfl (by decide) (yr_move rfl rfl) ?_
    refine VL.new (.inl rfl) rfl (by decide) (yn_callf rfl known45_Fill (.cons rfl .nil) (fun w hw => (c_toWs (by first | exact Sees.root (by assumption) w hw | exact Sees.own (by repeat (first | exact List.mem_cons_self | exact List.mem_append_left _ (by assumption) | apply List.mem_cons_of_mem | apply List.mem_append_right)) w hw) (by first | exact WRws.root (by assumption) hw | exact WRws.own (by repeat (first | exact WRowsIn.here | exact WRowsIn.last | apply WRowsIn.there | apply WRowsIn.thereS)) hw) (by omega)))) ?_
    rintro ⟨b42, f42⟩
    refine VL.r (.inl rfl) rfl (by decide) (yr_assign rfl rfl) ?_
    refine VL.nil ?_
    refine VE.then_wp ?_
    refine V.seq ?_
    refine V.region ?_
    refine VL.r (.inl rfl) rfl (by decide) (yr_move rfl rfl) ?_
    refine VL.q (.inl rfl) rfl (by decide) (yq_loadS rfl Try.underlying24 sz24_Fill rfl (by first | exact Sees.root (by assumption) | exact Sees.own (by repeat (first | exact List.mem_cons_self | exact List.mem_append_left _ (by assumption) | apply List.mem_cons_of_mem | apply List.mem_append_right)) | exact Sees.root (hR _ (by omega)) | exact Sees.own (RowsIn.mem (by repeat (first | exact RowsIn.here | exact RowsIn.last | apply RowsIn.there | apply RowsIn.thereS)) _ (by omega)) | exact Sees.own (WRowsIn.mem (by repeat (first | exact WRowsIn.here | exact WRowsIn.last | apply WRowsIn.there | apply WRowsIn.thereS)) _ (by omega))) rfl rfl rfl) ?_
    refine VL.q (.inl rfl) rfl (by decide) (yq_callf rfl known46_Fill (.cons rfl .nil) (fun w hw => c_toVec)) ?_
    refine VL.r (.inl rfl) rfl (by decide) (yr_move rfl rfl) ?_
    refine VL.r (.inl rfl) rfl (by decide) (yr_move rfl rfl) ?_
    refine VL.r (.inl rfl) rfl (by decide) (yr_move rfl rfl) ?_
    refine VL.r (.inl rfl) rfl (by decide) (yr_move rfl rfl) ?_
    refine VL.new1 (.inl rfl) rfl (by decide) (yn_callf rfl known47_Fill (.cons rfl (.cons rfl (.cons rfl (.cons rfl (.cons rfl (.cons rfl .nil)))))) (fun w hw => (c_implFill (by first | exact Sees.root (by assumption) w hw | exact Sees.own (by repeat (first | exact List.mem_cons_self | exact List.mem_append_left _ (by assumption) | apply List.mem_cons_of_mem | apply List.mem_append_right)) w hw) (by first | exact WRws.root (by assumption) hw | exact WRws.own (by repeat (first | exact WRowsIn.here | exact WRowsIn.last | apply WRowsIn.there | apply WRowsIn.thereS)) hw) (by omega)))) ?_
    rintro ⟨a51, c51⟩
    refine VL.r (.inl rfl) rfl (by decide) (yr_move rfl rfl) ?_
    refine VL.r (.inl rfl) rfl (by decide) (yr_extract rfl rfl rfl (by nofun)) ?_
    refine VL.r (.inl rfl) rfl (by decide) (yr_extract rfl rfl rfl (by nofun)) ?_
    refine VL.new1 (.inl rfl) rfl (by decide) (yn_alloc rfl zero35_Fill rfl) ?_
    intro b17
    refine VL.s (.inl rfl) rfl (yc_store rfl sz35_Fill rfl rfl (by repeat (first | exact UpdF.here | apply UpdF.there | apply UpdF.thereS)) (.inr ⟨rfl, rfl⟩) rfl (by first | exact Nat.le_of_ble_eq_true rfl | simp) (by decide) rfl) ?_
    rintro ⟨⟩
    refine VL.r (.inl rfl) rfl (by decide) (yr_assign rfl rfl) ?_
    refine VL.nil ?_
    refine VE.then_wp ?_
    refine V.seq ?_
    refine V.seq ?_
    refine V.region ?_
    refine VL.q (.inl rfl) rfl (by decide) (yq_loadS rfl Try.underlying35 sz35_Fill rfl (by first | exact Sees.root (by assumption) | exact Sees.own (by repeat (first | exact List.mem_cons_self | exact List.mem_append_left _ (by assumption) | apply List.mem_cons_of_mem | apply List.mem_append_right)) | exact Sees.root (hR _ (by omega)) | exact Sees.own (RowsIn.mem (by repeat (first | exact RowsIn.here | exact RowsIn.last | apply RowsIn.there | apply RowsIn.thereS)) _ (by omega)) | exact Sees.own (WRowsIn.mem (by repeat (first | exact WRowsIn.here | exact WRowsIn.last | apply WRowsIn.there | apply WRowsIn.thereS)) _ (by omega))) rfl rfl rfl) ?_
    refine VL.q (.inl rfl) rfl (by decide) (yq_loadS rfl Try.underlying35 sz35_Fill rfl (by first | exact Sees.root (by assumption) | exact Sees.own (by repeat (first | exact List.mem_cons_self | exact List.mem_append_left _ (by assumption) | apply List.mem_cons_of_mem | apply List.mem_append_right)) | exact Sees.root (hR _ (by omega)) | exact Sees.own (RowsIn.mem (by repeat (first | exact RowsIn.here | exact RowsIn.last | apply RowsIn.there | apply RowsIn.thereS)) _ (by omega)) | exact Sees.own (WRowsIn.mem (by repeat (first | exact WRowsIn.here | exact WRowsIn.last | apply WRowsIn.there | apply WRowsIn.thereS)) _ (by omega))) rfl rfl rfl) ?_
    refine VL.q (.inl rfl) rfl (by decide) (yq_callf rfl known19_Fill (.cons rfl (.cons rfl .nil)) (fun w hw => (c_eqMesh (by first | exact Sees.root (by assumption) w hw | exact Sees.own (by repeat (first | exact List.mem_cons_self | exact List.mem_append_left _ (by assumption) | apply List.mem_cons_of_mem | apply List.mem_append_right)) w hw) (by first | exact Sees.root (by assumption) w hw | exact Sees.own (by repeat (first | exact List.mem_cons_self | exact List.mem_append_left _ (by assumption) | apply List.mem_cons_of_mem | apply List.mem_append_right)) w hw) (by assumption) (by assumption) (by assumption) (by assumption) (by assumption) (by assumption) (by omega)))) ?_
    refine VL.r (.inl rfl) rfl (by decide) (yr_not rfl rfl) ?_
    refine VL.r (.inl rfl) rfl (by decide) (yr_move rfl rfl) ?_
    refine VX.split 58 _ rfl (fun h2 => ?_) (fun h2 => ?_)
    · skip
      replace h2 := bnot_t h2
      first | (exfalso; omega) | (simp [bcmp] at h2; done)
    · skip
      replace h2 := bnot_f h2
      refine VL.r (.inr ⟨_, _, _, rfl, rfl, rfl⟩) rfl (by decide) (yr_move rfl rfl) ?_
      refine VL.r (.inr ⟨_, _, _, rfl, rfl, rfl⟩) rfl (by decide) (yr_move rfl rfl) ?_
      refine VL.r (.inr ⟨_, _, _, rfl, rfl, rfl⟩) rfl (by decide) (yr_bcmp rfl Try.underlying4 rfl rfl (.inr rfl)) ?_
      refine VL.r (.inl rfl) rfl (by decide) (yr_pick_f rfl rfl rfl) ?_
      refine VL.nil ?_
      refine VE.then_wp ?_
      refine V.cond rfl (fun h3 => ?_) (fun h3 => ?_)
      · skip
        first | (exfalso; omega) | (simp [bcmp] at h3; done)
      · skip
        refine V.skip ?_
        refine VE.then_wp ?_
        refine V.seq ?_
        refine V.seq ?_
        refine V.region ?_
        refine VL.r (.inl rfl) rfl (by decide) (yr_move rfl rfl) ?_
        refine VL.r (.inl rfl) rfl (by decide) (yr_move rfl rfl) ?_
        refine VL.new (.inl rfl) rfl (by decide) (yn_callf rfl known45_Fill (.cons rfl .nil) (fun w hw => (c_toWs (by first | exact Sees.root (by assumption) w hw | exact Sees.own (by repeat (first | exact List.mem_cons_self | exact List.mem_append_left _ (by assumption) | apply List.mem_cons_of_mem | apply List.mem_append_right)) w hw) (by first | exact WRws.root (by assumption) hw | exact WRws.own (by repeat (first | exact WRowsIn.here | exact WRowsIn.last | apply WRowsIn.there | apply WRowsIn.thereS)) hw) (by omega)))) ?_
        rintro ⟨b65, f65⟩
        refine VL.q (.inl rfl) rfl (by decide) (yq_callf rfl known48_Fill (.cons rfl (.cons rfl .nil)) (fun w hw => (c_eqWs (by first | exact Sees.root (by assumption) w hw | exact Sees.own (by repeat (first | exact List.mem_cons_self | exact List.mem_append_left _ (by assumption) | apply List.mem_cons_of_mem | apply List.mem_append_right)) w hw) (by first | exact WRws.root (by assumption) hw | exact WRws.own (by repeat (first | exact WRowsIn.here | exact WRowsIn.last | apply WRowsIn.there | apply WRowsIn.thereS)) hw) (by first | exact Sees.root (by assumption) w hw | exact Sees.own (by repeat (first | exact List.mem_cons_self | exact List.mem_append_left _ (by assumption) | apply List.mem_cons_of_mem | apply List.mem_append_right)) w hw) (by first | exact WRws.root (by assumption) hw | exact WRws.own (by repeat (first | exact WRowsIn.here | exact WRowsIn.last | apply WRowsIn.there | apply WRowsIn.thereS)) hw) (by assumption) (by assumption) (by omega)))) ?_
        refine VL.r (.inl rfl) rfl (by decide) (yr_not rfl rfl) ?_
        refine VL.nil ?_
        refine VE.then_wp ?_
        refine V.cond rfl (fun h4 => ?_) (fun h4 => ?_)
        · skip
          replace h4 := bnot_t h4
          first | (exfalso; omega) | (simp [bcmp] at h4; done)
        · skip
          replace h4 := bnot_f h4
          refine V.skip ?_
          refine VE.then_wp ?_
          refine V.seq ?_
          refine V.region ?_
          refine VL.r (.inl rfl) rfl (by decide) (yr_assign (u := .int .i64 1) rfl rfl) ?_
          refine VL.nil ?_
          refine VE.then_wp ?_
          refine V.seq ?_
          refine V.region ?_
          refine VL.r (.inl rfl) rfl (by decide) (yr_move rfl rfl) ?_
          refine VL.r (.inl rfl) rfl (by decide) (yr_move rfl rfl) ?_
          refine VL.c (.inl rfl) rfl (by decide) (yc_callf rfl known49_Fill (.cons rfl (.cons rfl .nil)) (by apply Pick.two; all_goals (repeat (first | exact Rem.here | exact Rem.all | exact Rem.hereS | apply Rem.there | apply Rem.thereS))) (c_markWs (by omega) (by omega) (by omega))) ?_
          rintro ⟨⟩
          refine VL.r (.inl rfl) rfl (by decide) (yr_assign rfl rfl) ?_
          refine VL.nil ?_
          refine VE.then_wp ?_
          refine V.seq ?_
          refine V.seq ?_
          refine V.region ?_
          refine VL.r (.inl rfl) rfl (by decide) (yr_move rfl rfl) ?_
          refine VL.r (.inl rfl) rfl (by decide) (yr_icmp rfl (.inr (.inr (.inl rfl))) rfl rfl) ?_
          refine VL.r (.inl rfl) rfl (by decide) (yr_move rfl rfl) ?_
          refine VX.split 73 _ rfl (fun h5 => ?_) (fun h5 => ?_)
          · skip
            replace h5 := ic_lss h5
            first | (exfalso; omega) | (simp [bcmp] at h5; done)
          · skip
            replace h5 := ic_lss' h5
            refine VL.q (.inr ⟨_, _, _, rfl, rfl, rfl⟩) rfl (by decide) (yq_loadS rfl Try.underlying35 sz35_Fill rfl (by first | exact Sees.root (by assumption) | exact Sees.own (by repeat (first | exact List.mem_cons_self | exact List.mem_append_left _ (by assumption) | apply List.mem_cons_of_mem | apply List.mem_append_right)) | exact Sees.root (hR _ (by omega)) | exact Sees.own (RowsIn.mem (by repeat (first | exact RowsIn.here | exact RowsIn.last | apply RowsIn.there | apply RowsIn.thereS)) _ (by omega)) | exact Sees.own (WRowsIn.mem (by repeat (first | exact WRowsIn.here | exact WRowsIn.last | apply WRowsIn.there | apply WRowsIn.thereS)) _ (by omega))) rfl rfl rfl) ?_
            refine VL.q (.inr ⟨_, _, _, rfl, rfl, rfl⟩) rfl (by decide) (yq_loadS rfl Try.underlying35 sz35_Fill rfl (by first | exact Sees.root (by assumption) | exact Sees.own (by repeat (first | exact List.mem_cons_self | exact List.mem_append_left _ (by assumption) | apply List.mem_cons_of_mem | apply List.mem_append_right)) | exact Sees.root (hR _ (by omega)) | exact Sees.own (RowsIn.mem (by repeat (first | exact RowsIn.here | exact RowsIn.last | apply RowsIn.there | apply RowsIn.thereS)) _ (by omega)) | exact Sees.own (WRowsIn.mem (by repeat (first | exact WRowsIn.here | exact WRowsIn.last | apply WRowsIn.there | apply WRowsIn.thereS)) _ (by omega))) rfl rfl rfl) ?_
            refine VL.q (.inr ⟨_, _, _, rfl, rfl, rfl⟩) rfl (by decide) (yq_callf rfl known19_Fill (.cons rfl (.cons rfl .nil)) (fun w hw => (c_eqMesh (by first | exact Sees.root (by assumption) w hw | exact Sees.own (by repeat (first | exact List.mem_cons_self | exact List.mem_append_left _ (by assumption) | apply List.mem_cons_of_mem | apply List.mem_append_right)) w hw) (by first | exact Sees.root (by assumption) w hw | exact Sees.own (by repeat (first | exact List.mem_cons_self | exact List.mem_append_left _ (by assumption) | apply List.mem_cons_of_mem | apply List.mem_append_right)) w hw) (by assumption) (by assumption) (by assumption) (by assumption) (by assumption) (by assumption) (by omega)))) ?_
            refine VL.r (.inr ⟨_, _, _, rfl, rfl, rfl⟩) rfl (by decide) (yr_not rfl rfl) ?_
            refine VL.r (.inl rfl) rfl (by decide) (yr_pick_f rfl rfl rfl) ?_
            refine VL.r (.inl rfl) rfl (by decide) (yr_move rfl rfl) ?_
            refine VX.split 79 _ rfl (fun h6 => ?_) (fun h6 => ?_)
            · skip
              replace h6 := bnot_t h6
              first | (exfalso; omega) | (simp [bcmp] at h6; done)
            · skip
              replace h6 := bnot_f h6
              refine VL.r (.inr ⟨_, _, _, rfl, rfl, rfl⟩) rfl (by decide) (yr_move rfl rfl) ?_
              refine VL.r (.inr ⟨_, _, _, rfl, rfl, rfl⟩) rfl (by decide) (yr_move rfl rfl) ?_
              refine VL.r (.inr ⟨_, _, _, rfl, rfl, rfl⟩) rfl (by decide) (yr_bcmp rfl Try.underlying4 rfl rfl (.inr rfl)) ?_
              refine VL.r (.inl rfl) rfl (by decide) (yr_pick_f rfl rfl rfl) ?_
              refine VL.nil ?_
              refine VE.then_wp ?_
              refine V.cond rfl (fun h7 => ?_) (fun h7 => ?_)
              · skip
                first | (exfalso; omega) | (simp [bcmp] at h7; done)
              · skip
                refine V.skip ?_
                refine VE.then_wp ?_
                refine V.seq ?_
                refine V.region ?_
                refine VL.r (.inl rfl) rfl (by decide) (yr_assign (u := .int .i64 1) rfl rfl) ?_
                refine VL.nil ?_
                refine VE.then_wp ?_
                refine V.seq ?_
                refine V.region ?_
                refine VL.q (.inl rfl) rfl (by decide) (yq_loadS rfl Try.underlying35 sz35_Fill rfl (by first | exact Sees.root (by assumption) | exact Sees.own (by repeat (first | exact List.mem_cons_self | exact List.mem_append_left _ (by assumption) | apply List.mem_cons_of_mem | apply List.mem_append_right)) | exact Sees.root (hR _ (by omega)) | exact Sees.own (RowsIn.mem (by repeat (first | exact RowsIn.here | exact RowsIn.last | apply RowsIn.there | apply RowsIn.thereS)) _ (by omega)) | exact Sees.own (WRowsIn.mem (by repeat (first | exact WRowsIn.here | exact WRowsIn.last | apply WRowsIn.there | apply WRowsIn.thereS)) _ (by omega))) rfl rfl rfl) ?_
                refine VL.r (.inl rfl) rfl (by decide) (yr_move rfl rfl) ?_
                refine VL.c (.inl rfl) rfl (by decide) (yc_callf rfl known20_Fill (.cons rfl (.cons rfl .nil)) (by apply Pick.one; repeat (first | exact Rem.here | apply Rem.there | apply Rem.thereS)) (c_markMesh (by omega) (by omega) (by omega))) ?_
                rintro ⟨⟩
                refine VL.r (.inl rfl) rfl (by decide) (yr_assign rfl rfl) ?_
                refine VL.nil ?_
                refine VE.then_wp ?_
                refine V.seq ?_
                refine V.region ?_
                refine VL.r (.inl rfl) rfl (by decide) (yr_assign (u := .int .i64 1) rfl rfl) ?_
                refine VL.nil ?_
                refine VE.then_wp ?_
                refine V.seq ?_
                refine V.region ?_
                refine VL.q (.inl rfl) rfl (by decide) (yq_loadS rfl Try.underlying35 sz35_Fill rfl (by first | exact Sees.root (by assumption) | exact Sees.own (by repeat (first | exact List.mem_cons_self | exact List.mem_append_left _ (by assumption) | apply List.mem_cons_of_mem | apply List.mem_append_right)) | exact Sees.root (hR _ (by omega)) | exact Sees.own (RowsIn.mem (by repeat (first | exact RowsIn.here | exact RowsIn.last | apply RowsIn.there | apply RowsIn.thereS)) _ (by omega)) | exact Sees.own (WRowsIn.mem (by repeat (first | exact WRowsIn.here | exact WRowsIn.last | apply WRowsIn.there | apply WRowsIn.thereS)) _ (by omega))) rfl rfl rfl) ?_
                refine VL.r (.inl rfl) rfl (by decide) (yr_move rfl rfl) ?_
                refine VL.q (.inl rfl) rfl (by decide) (yq_callf rfl known50_Fill (.cons rfl (.cons rfl .nil)) (fun w hw => (c_heldMesh (by first | exact Sees.root (by assumption) w hw | exact Sees.own (by repeat (first | exact List.mem_cons_self | exact List.mem_append_left _ (by assumption) | apply List.mem_cons_of_mem | apply List.mem_append_right)) w hw) (by omega) (by omega) (by omega)))) ?_
                refine VL.r (.inl rfl) rfl (by decide) (yr_assign rfl rfl) ?_
                refine VL.nil ?_
                refine VE.then_wp ?_
                refine V.seq ?_
                refine V.seq ?_
                refine V.region ?_
                refine VL.r (.inl rfl) rfl (by decide) (yr_move rfl rfl) ?_
                refine VL.r (.inl rfl) rfl (by decide) (yr_icmp rfl (.inr (.inr (.inl rfl))) rfl rfl) ?_
                refine VL.nil ?_
                refine VE.then_wp ?_
                refine V.cond rfl (fun h8 => ?_) (fun h8 => ?_)
                · skip
                  replace h8 := ic_lss h8
                  first | (exfalso; omega) | (simp [bcmp] at h8; done)
                · skip
                  replace h8 := ic_lss' h8
                  refine V.skip ?_
                  refine VE.then_wp ?_
                  refine V.seq ?_
                  refine V.seq ?_
                  refine V.region ?_
                  refine VL.r (.inl rfl) rfl (by decide) (yr_move rfl rfl) ?_
                  refine VL.r (.inl rfl) rfl (by decide) (yr_move rfl rfl) ?_
                  refine VL.r (.inl rfl) rfl (by decide) (yr_icmp rfl (.inr (.inl rfl)) rfl rfl) ?_
                  refine VL.nil ?_
                  refine VE.then_wp ?_
                  refine V.cond rfl (fun h9 => ?_) (fun h9 => ?_)
                  · skip
                    replace h9 := ic_neq h9
                    first | (exfalso; omega) | (simp [bcmp] at h9; done)
                  · skip
                    replace h9 := ic_neq' h9
                    refine V.skip ?_
                    refine VE.then_wp ?_
                    refine V.seq ?_
                    refine Dr.V.drawR [(0, 5), (2, 5), (4, 5), (5, 5), (6, 5), (7, 5), (1, 1), (3, 5), (8, 1), (9, 5), (10, 5), (11, 5), (12, 2), (13, 3), (14, 5)] [(12, ((fun b => .pointer (some (adr (some ⟨b, 0, none⟩) 0))), (fun b => ⟨some ⟨b, 0, none⟩, [Value.float .f32 0, Value.float .f32 0, Value.float .f32 0, Value.float .f32 0, Value.int .i64 0, Value.int .i64 0, Value.int .i64 0, Value.slice none 0 0], 8, 35⟩)))] [] _ mixed_Fill (by kernel_rfl) (fun w hw => hw) ?_
                    refine Dr.SW.r rfl (.inl rfl) rfl (by decide) (yr_move rfl rfl) ?_
                    refine Dr.SW.p rfl (.inl rfl) rfl (by decide) (yq_loadS rfl Try.underlying24 sz24_Fill rfl (by first | exact Sees.root (by assumption) | exact Sees.own (by (try simp only [List.append_assoc, List.cons_append, List.nil_append]); repeat (first | exact List.mem_cons_self | exact List.mem_append_left _ (by assumption) | apply List.mem_cons_of_mem | apply List.mem_append_right)) | exact Sees.root (hR _ (by omega)) | exact Sees.own (RowsIn.mem (by (try simp only [List.append_assoc, List.cons_append, List.nil_append]); repeat (first | exact RowsIn.here | exact RowsIn.last | apply RowsIn.there | apply RowsIn.thereS)) _ (by omega)) | exact Sees.own (WRowsIn.mem (by (try simp only [List.append_assoc, List.cons_append, List.nil_append]); repeat (first | exact WRowsIn.here | exact WRowsIn.last | apply WRowsIn.there | apply WRowsIn.thereS)) _ (by omega))) rfl rfl rfl) ?_
                    refine Dr.SW.r rfl (.inl rfl) rfl (by decide) (yr_move rfl rfl) ?_
                    refine Dr.SW.r rfl (.inl rfl) rfl (by decide) (yr_move rfl rfl) ?_
                    refine Dr.SW.r rfl (.inl rfl) rfl (by decide) (yr_move rfl rfl) ?_
                    refine Dr.SW.r rfl (.inl rfl) rfl (by decide) (yr_move rfl rfl) ?_
                    refine Dr.SW.new rfl (.inl rfl) rfl (by decide) (yn_callf rfl known45_Fill (.cons rfl .nil) (fun w hw => (c_toWs (by first | exact Sees.root (by assumption) w hw | exact Sees.own (by (try simp only [List.append_assoc, List.cons_append, List.nil_append]); repeat (first | exact List.mem_cons_self | exact List.mem_append_left _ (by assumption) | apply List.mem_cons_of_mem | apply List.mem_append_right)) w hw) (by first | exact WRws.root (by assumption) hw | exact WRws.own (by (try simp only [List.append_assoc, List.cons_append, List.nil_append]); repeat (first | exact WRowsIn.here | exact WRowsIn.last | apply WRowsIn.there | apply WRowsIn.thereS)) hw) (by omega)))) ?_
                    rintro ⟨b97, f97⟩
                    refine Dr.SW.p rfl (.inl rfl) rfl (by decide) (yq_callf rfl known46_Fill (.cons rfl .nil) (fun w hw => c_toVec)) ?_
                    refine Dr.SW.new1 rfl (.inl rfl) rfl (by decide) (yn_callf rfl known47_Fill (.cons rfl (.cons rfl (.cons rfl (.cons rfl (.cons rfl (.cons rfl .nil)))))) (fun w hw => (c_implFill (by first | exact Sees.root (by assumption) w hw | exact Sees.own (by (try simp only [List.append_assoc, List.cons_append, List.nil_append]); repeat (first | exact List.mem_cons_self | exact List.mem_append_left _ (by assumption) | apply List.mem_cons_of_mem | apply List.mem_append_right)) w hw) (by first | exact WRws.root (by assumption) hw | exact WRws.own (by (try simp only [List.append_assoc, List.cons_append, List.nil_append]); repeat (first | exact WRowsIn.here | exact WRowsIn.last | apply WRowsIn.there | apply WRowsIn.thereS)) hw) (by omega)))) ?_
                    rintro ⟨a104, c104⟩
                    refine Dr.SW.r rfl (.inl rfl) rfl (by decide) (yr_move rfl rfl) ?_
                    refine Dr.SW.r rfl (.inl rfl) rfl (by decide) (yr_extract rfl rfl rfl (by nofun)) ?_
                    refine Dr.SW.r rfl (.inl rfl) rfl (by decide) (yr_extract rfl rfl rfl (by nofun)) ?_
                    refine Dr.SW.a rfl rfl rfl (by decide) rfl (fun w0 => (yn_alloc rfl zero35_Fill rfl)) ?_
                    intro b22
                    refine Dr.SW.s rfl (.inl rfl) rfl (yc_store rfl sz35_Fill rfl rfl (Dr.UpdF.app (by repeat (first | exact UpdF.here | apply UpdF.there | apply UpdF.thereS))) (.inr ⟨rfl, rfl⟩) rfl (by first | exact Nat.le_of_ble_eq_true rfl | simp) (by decide) rfl) ?_
                    rintro ⟨⟩
                    refine Dr.SW.r rfl (.inl rfl) rfl (by decide) (yr_assign rfl rfl) ?_
                    refine Dr.SW.done ?_
                    refine Dr.eqO (by simp only [List.append_nil, List.append_assoc, List.cons_append, List.nil_append] <;> rfl) ?_
                    refine VE.then_wp ?_
                    refine V.seq ?_
                    refine V.seq ?_
                    refine V.region ?_
                    refine VL.q (.inl rfl) rfl (by decide) (yq_loadS rfl Try.underlying35 sz35_Fill rfl (by first | exact Sees.root (by assumption) | exact Sees.own (by repeat (first | exact List.mem_cons_self | exact List.mem_append_left _ (by assumption) | apply List.mem_cons_of_mem | apply List.mem_append_right)) | exact Sees.root (hR _ (by omega)) | exact Sees.own (RowsIn.mem (by repeat (first | exact RowsIn.here | exact RowsIn.last | apply RowsIn.there | apply RowsIn.thereS)) _ (by omega)) | exact Sees.own (WRowsIn.mem (by repeat (first | exact WRowsIn.here | exact WRowsIn.last | apply WRowsIn.there | apply WRowsIn.thereS)) _ (by omega))) rfl rfl rfl) ?_
                    refine VL.q (.inl rfl) rfl (by decide) (yq_loadS rfl Try.underlying35 sz35_Fill rfl (by first | exact Sees.root (by assumption) | exact Sees.own (by repeat (first | exact List.mem_cons_self | exact List.mem_append_left _ (by assumption) | apply List.mem_cons_of_mem | apply List.mem_append_right)) | exact Sees.root (hR _ (by omega)) | exact Sees.own (RowsIn.mem (by repeat (first | exact RowsIn.here | exact RowsIn.last | apply RowsIn.there | apply RowsIn.thereS)) _ (by omega)) | exact Sees.own (WRowsIn.mem (by repeat (first | exact WRowsIn.here | exact WRowsIn.last | apply WRowsIn.there | apply WRowsIn.thereS)) _ (by omega))) rfl rfl rfl) ?_
                    refine VL.q (.inl rfl) rfl (by decide) (yq_callf rfl known19_Fill (.cons rfl (.cons rfl .nil)) (fun w hw => (c_eqMesh (by first | exact Sees.root (by assumption) w hw | exact Sees.own (by repeat (first | exact List.mem_cons_self | exact List.mem_append_left _ (by assumption) | apply List.mem_cons_of_mem | apply List.mem_append_right)) w hw) (by first | exact Sees.root (by assumption) w hw | exact Sees.own (by repeat (first | exact List.mem_cons_self | exact List.mem_append_left _ (by assumption) | apply List.mem_cons_of_mem | apply List.mem_append_right)) w hw) (by assumption) (by assumption) (by assumption) (by assumption) (by assumption) (by assumption) (by omega)))) ?_
                    refine VL.r (.inl rfl) rfl (by decide) (yr_not rfl rfl) ?_
                    refine VL.r (.inl rfl) rfl (by decide) (yr_move rfl rfl) ?_
                    refine VX.split 111 _ rfl (fun h10 => ?_) (fun h10 => ?_)
                    · skip
                      replace h10 := bnot_t h10
                      first | (exfalso; omega) | (simp [bcmp] at h10; done)
                    · skip
                      replace h10 := bnot_f h10
                      refine VL.r (.inr ⟨_, _, _, rfl, rfl, rfl⟩) rfl (by decide) (yr_move rfl rfl) ?_
                      refine VL.r (.inr ⟨_, _, _, rfl, rfl, rfl⟩) rfl (by decide) (yr_move rfl rfl) ?_
                      refine VL.r (.inr ⟨_, _, _, rfl, rfl, rfl⟩) rfl (by decide) (yr_bcmp rfl Try.underlying4 rfl rfl (.inr rfl)) ?_
                      refine VL.r (.inl rfl) rfl (by decide) (yr_pick_f rfl rfl rfl) ?_
                      refine VL.nil ?_
                      refine VE.then_wp ?_
                      refine V.cond rfl (fun h11 => ?_) (fun h11 => ?_)
                      · skip
                        first | (exfalso; omega) | (simp [bcmp] at h11; done)
                      · skip
                        refine V.skip ?_
                        refine VE.then_wp ?_
                        refine V.seq ?_
                        refine V.region ?_
                        refine VL.r (.inl rfl) rfl (by decide) (yr_assign (u := .int .i64 1) rfl rfl) ?_
                        refine VL.nil ?_
                        refine VE.then_wp ?_
                        refine V.seq ?_
                        refine V.region ?_
                        refine VL.q (.inl rfl) rfl (by decide) (yq_loadS rfl Try.underlying35 sz35_Fill rfl (by first | exact Sees.root (by assumption) | exact Sees.own (by repeat (first | exact List.mem_cons_self | exact List.mem_append_left _ (by assumption) | apply List.mem_cons_of_mem | apply List.mem_append_right)) | exact Sees.root (hR _ (by omega)) | exact Sees.own (RowsIn.mem (by repeat (first | exact RowsIn.here | exact RowsIn.last | apply RowsIn.there | apply RowsIn.thereS)) _ (by omega)) | exact Sees.own (WRowsIn.mem (by repeat (first | exact WRowsIn.here | exact WRowsIn.last | apply WRowsIn.there | apply WRowsIn.thereS)) _ (by omega))) rfl rfl rfl) ?_
                        refine VL.r (.inl rfl) rfl (by decide) (yr_move rfl rfl) ?_
                        refine VL.q (.inl rfl) rfl (by decide) (yq_callf rfl known50_Fill (.cons rfl (.cons rfl .nil)) (fun w hw => (c_heldMesh (by first | exact Sees.root (by assumption) w hw | exact Sees.own (by repeat (first | exact List.mem_cons_self | exact List.mem_append_left _ (by assumption) | apply List.mem_cons_of_mem | apply List.mem_append_right)) w hw) (by omega) (by omega) (by omega)))) ?_
                        refine VL.r (.inl rfl) rfl (by decide) (yr_assign rfl rfl) ?_
                        refine VL.nil ?_
                        refine VE.then_wp ?_
                        refine V.seq ?_
                        refine V.seq ?_
                        refine V.region ?_
                        refine VL.r (.inl rfl) rfl (by decide) (yr_move rfl rfl) ?_
                        refine VL.r (.inl rfl) rfl (by decide) (yr_icmp rfl (.inr (.inr (.inl rfl))) rfl rfl) ?_
                        refine VL.nil ?_
                        refine VE.then_wp ?_
                        refine V.cond rfl (fun h12 => ?_) (fun h12 => ?_)
                        · skip
                          replace h12 := ic_lss h12
                          first | (exfalso; omega) | (simp [bcmp] at h12; done)
                        · skip
                          replace h12 := ic_lss' h12
                          refine V.skip ?_
                          refine VE.then_wp ?_
                          refine V.seq ?_
                          refine V.seq ?_
                          refine V.region ?_
                          refine VL.r (.inl rfl) rfl (by decide) (yr_move rfl rfl) ?_
                          refine VL.r (.inl rfl) rfl (by decide) (yr_move rfl rfl) ?_
                          refine VL.r (.inl rfl) rfl (by decide) (yr_icmp rfl (.inr (.inl rfl)) rfl rfl) ?_
                          refine VL.nil ?_
                          refine VE.then_wp ?_
                          refine V.cond rfl (fun h13 => ?_) (fun h13 => ?_)
                          · skip
                            replace h13 := ic_neq h13
                            first | (exfalso; omega) | (simp [bcmp] at h13; done)
                          · skip
                            replace h13 := ic_neq' h13
                            refine V.skip ?_
                            refine VE.then_wp ?_
                            refine V.seq ?_
                            refine V.region ?_
                            refine VL.r (.inl rfl) rfl (by decide) (yr_assign (u := .bool true) rfl rfl) ?_
                            refine VL.nil ?_
                            refine VE.then_wp ?_
                            refine V.ret ?_
                            refine ret1 rfl rfl (fun w1 hw => ?_)
                            exact ⟨rfl, hw.below⟩

end Go.Proofs.Ytacjcomjnabmhaa
