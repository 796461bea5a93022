/- Own texts of this claim, merged: WPkS, WUnS, WDesign, WFlat, WLine, Fine, MarkW, WMarkW, WMeshM, WUn. -/
import Derived.KernelRfl
import Derived.Test.YtnommdpgmoljcaaKFnExactUnpackMesh4
namespace Go.Proofs.Ytnommdpgmoljcaa
open Go.RowKit
set_option linter.unusedVariables false
set_option linter.unusedSimpArgs false
set_option maxRecDepth 20000

theorem known125_PkS : Known Try.prog 125 := Known.mk' Try.func125 (by kernel_rfl)
theorem elt5_PkS : Elt Try.prog 5 [Value.int .u8 0] 1 := Elt.mk' (by kernel_rfl) (by decide)
theorem mixed_PkS : Try.prog.follows .mixedOrders = true := by kernel_rfl
theorem sz2_PkS : (Try.prog.info? 2).map (·.size) = some 1 := by kernel_rfl
theorem fb2_PkS : flatB Try.prog 2 = true := by kernel_rfl
theorem sz27_PkS : (Try.prog.info? 27).map (·.size) = some 3 := by kernel_rfl
theorem known127_PkS : Known Try.prog 127 := Known.mk' Try.func127 (by kernel_rfl)
theorem known126_PkS : Known Try.prog 126 := Known.mk' Try.func126 (by kernel_rfl)
theorem sz23_PkS : (Try.prog.info? 23).map (·.size) = some 1 := by kernel_rfl
theorem fb23_PkS : flatB Try.prog 23 = true := by kernel_rfl
theorem sz28_PkS : (Try.prog.info? 28).map (·.size) = some 1 := by kernel_rfl
theorem fb28_PkS : flatB Try.prog 28 = true := by kernel_rfl
theorem ext100_PkS : ExtF Try.prog 100 (Extern.MathFloor.toIntegral "math.RoundToEven" .even) := ⟨_, Try.func100, by kernel_rfl, by kernel_rfl, by kernel_rfl, by kernel_rfl⟩
attribute [local irreducible] fop fcmp fconv fneg fabs List.getD scN num part3 fround qI qz scU allF topK hdr

theorem c_specPack {w : World} {q : Option Addr} {f1 f2 f3 st : Nat} {wi hi de : Int} {a : Option Addr} {c : Nat} {vs : List V3} (hQ : Cl w q [.float .f32 f1, .float .f32 f2, .float .f32 f3, .float .f32 st, .int .i64 wi, .int .i64 hi, .int .i64 de, .slice a vs.length c]) (hA : Cl w a (vl vs)) (hX : Cans3 vs) (hf : Can3 (f1, f2, f3)) (hst : Can .f32 st) (hn : vs.length ≤ 1000) : Pure Try.prog 93 [.pointer (some (adr q 0))] w (.tuple #[.string (if allF vs (vs.length * 3) then stb (pkL (f1, f2, f3) st wi hi de vs) else ⟨#[]⟩), .bool (allF vs (vs.length * 3))]) := by
  refine Pure.enter Try.func93 rfl Try.ntmps93 (Nat.le_of_ble_eq_true rfl) ?_
  refine V.seq ?_
  refine V.region ?_
  refine VL.r (.inl rfl) rfl (by decide) (yr_assign rfl rfl) ?_
  refine VL.r (.inl rfl) rfl (by decide) (yr_assign (u := .bool false) rfl rfl) ?_
  refine VL.nil ?_
  refine VE.then_wp ?_
  refine V.seq ?_
  refine V.region ?_
  refine VL.r (.inl rfl) rfl (by decide) (yr_move rfl rfl) ?_
  refine VL.q (.inl rfl) rfl (by decide) (yq_callf rfl known125_PkS (.cons rfl .nil) (fun w hw => (c_scale (by first | exact Sees.root (by assumption) w hw | exact Sees.own (by repeat (first | exact List.mem_cons_self | exact List.mem_append_left _ (by assumption) | apply List.mem_cons_of_mem | apply List.mem_append_right)) w hw) (by first | exact Sees.root (by assumption) w hw | exact Sees.own (by repeat (first | exact List.mem_cons_self | exact List.mem_append_left _ (by assumption) | apply List.mem_cons_of_mem | apply List.mem_append_right)) w hw) hX (by omega)))) ?_
  refine VL.r (.inl rfl) rfl (by decide) (yr_move rfl rfl) ?_
  refine VL.r (.inl rfl) rfl (by decide) (yr_extract rfl rfl rfl (by nofun)) ?_
  refine VL.r (.inl rfl) rfl (by decide) (yr_extract rfl rfl rfl (by nofun)) ?_
  refine VL.r (.inl rfl) rfl (by decide) (yr_assign rfl rfl) ?_
  refine VL.r (.inl rfl) rfl (by decide) (yr_assign rfl rfl) ?_
  refine VL.nil ?_
  refine VE.then_wp ?_
  refine V.seq ?_
  refine V.seq ?_
  refine V.region ?_
  refine VL.r (.inl rfl) rfl (by decide) (yr_move rfl rfl) ?_
  refine VL.r (.inl rfl) rfl (by decide) (yr_not rfl rfl) ?_
  refine VL.nil ?_
  refine VE.then_wp ?_
  refine V.cond rfl (fun h1 => ?_) (fun h1 => ?_)
  · skip
    replace h1 := bnot_t h1
    refine V.seq ?_
    refine V.region ?_
    refine VL.r (.inl rfl) rfl (by decide) (yr_assign rfl rfl) ?_
    refine VL.r (.inl rfl) rfl (by decide) (yr_assign (u := .bool false) rfl rfl) ?_
    refine VL.nil ?_
    refine VE.then_wp ?_
    refine V.ret ?_
    refine VE.then_ret ?_
    refine ret2 rfl rfl rfl (by nofun) (by nofun) (fun w1 hw => ?_)
    first
      | (have h8 : allF vs (vs.length * 3) = false := by assumption
         exact ⟨by rw [h8]; rfl, hw.below⟩)
      | (obtain rfl : i = vs.length := by omega
         exact ⟨by rw [hall]; rfl, hw.below⟩)
  · skip
    replace h1 := bnot_f h1
    have hall : allF vs (vs.length * 3) = true := h1
    rw [if_pos hall]
    refine V.skip ?_
    refine VE.then_wp ?_
    refine V.seq ?_
    refine V.region ?_
    refine VL.new1 (.inl rfl) rfl (by decide) (yn_lit rfl Try.underlying50 elt5_PkS rfl (by decide) (.cons rfl (.cons rfl (.cons rfl (.cons rfl .nil)))) (by first | (simp; done) | (simp [cn, cn1, cn0]; done)) rfl rfl rfl) ?_
    intro b19
    refine VL.c (.inl rfl) rfl (by decide) (yc_own8 rfl Try.underlying50 Try.underlying5 rfl (by repeat (first | exact List.mem_cons_self | apply List.mem_cons_of_mem)) (by decide)) ?_
    rintro ⟨⟩
    refine VL.r (.inl rfl) rfl (by decide) (yr_assign rfl rfl) ?_
    refine VL.nil ?_
    refine VE.then_wp ?_
    refine V.seq ?_
    refine Dr.V.drawR [(0, 5), (1, 5), (2, 5), (3, 5), (4, 5), (5, 5), (6, 5), (7, 5), (8, 5), (9, 5), (10, 5), (11, 5), (12, 5), (13, 5), (14, 5), (15, 5), (16, 1), (17, 3), (18, 5)] [] [⟨some ⟨b19, 0, none⟩, bl [77, 83, 72, 49], 4 * 1, 5⟩] [] mixed_PkS (by kernel_rfl) (fun w hw => hw) ?_
    refine Dr.SW.r rfl (.inl rfl) rfl (by decide) (yr_move rfl rfl) ?_
    refine Dr.SW.r rfl (.inl rfl) rfl (by decide) (yr_move rfl rfl) ?_
    refine Dr.SW.r rfl (.inl rfl) rfl (by decide) (yr_nilCheck rfl rfl) ?_
    refine Dr.SW.r rfl (.inl rfl) rfl (by decide) (yr_fieldAddr rfl Try.underlying30 rfl rfl sz2_PkS (by decide) rfl) ?_
    refine Dr.SW.p rfl (.inl rfl) rfl (by decide) (yq_load rfl fb2_PkS rfl (by first | exact Sees.root (by assumption) | exact Sees.own (by (try simp only [List.append_assoc, List.cons_append, List.nil_append]); repeat (first | exact List.mem_cons_self | exact List.mem_append_left _ (by assumption) | apply List.mem_cons_of_mem | apply List.mem_append_right)) | exact Sees.root (hR _ (by omega)) | exact Sees.own (RowsIn.mem (by (try simp only [List.append_assoc, List.cons_append, List.nil_append]); repeat (first | exact RowsIn.here | exact RowsIn.last | apply RowsIn.there | apply RowsIn.thereS)) _ (by omega)) | exact Sees.own (WRowsIn.mem (by (try simp only [List.append_assoc, List.cons_append, List.nil_append]); repeat (first | exact WRowsIn.here | exact WRowsIn.last | apply WRowsIn.there | apply WRowsIn.thereS)) _ (by omega))) rfl) ?_
    refine Dr.SW.r rfl (.inl rfl) rfl (by decide) (yr_intConv (r := w8 _) rfl Try.underlying2 Try.underlying5 rfl rfl) ?_
    refine Dr.SW.r rfl (.inl rfl) rfl (by decide) (yr_move rfl rfl) ?_
    refine Dr.SW.r rfl (.inl rfl) rfl (by decide) (yr_nilCheck rfl rfl) ?_
    refine Dr.SW.r rfl (.inl rfl) rfl (by decide) (yr_fieldAddr rfl Try.underlying30 rfl rfl sz2_PkS (by decide) rfl) ?_
    refine Dr.SW.p rfl (.inl rfl) rfl (by decide) (yq_load rfl fb2_PkS rfl (by first | exact Sees.root (by assumption) | exact Sees.own (by (try simp only [List.append_assoc, List.cons_append, List.nil_append]); repeat (first | exact List.mem_cons_self | exact List.mem_append_left _ (by assumption) | apply List.mem_cons_of_mem | apply List.mem_append_right)) | exact Sees.root (hR _ (by omega)) | exact Sees.own (RowsIn.mem (by (try simp only [List.append_assoc, List.cons_append, List.nil_append]); repeat (first | exact RowsIn.here | exact RowsIn.last | apply RowsIn.there | apply RowsIn.thereS)) _ (by omega)) | exact Sees.own (WRowsIn.mem (by (try simp only [List.append_assoc, List.cons_append, List.nil_append]); repeat (first | exact WRowsIn.here | exact WRowsIn.last | apply WRowsIn.there | apply WRowsIn.thereS)) _ (by omega))) rfl) ?_
    refine Dr.SW.r rfl (.inl rfl) rfl (by decide) (yr_intConv (r := w8 _) rfl Try.underlying2 Try.underlying5 rfl rfl) ?_
    refine Dr.SW.r rfl (.inl rfl) rfl (by decide) (yr_move rfl rfl) ?_
    refine Dr.SW.r rfl (.inl rfl) rfl (by decide) (yr_nilCheck rfl rfl) ?_
    refine Dr.SW.r rfl (.inl rfl) rfl (by decide) (yr_fieldAddr rfl Try.underlying30 rfl rfl sz2_PkS (by decide) rfl) ?_
    refine Dr.SW.p rfl (.inl rfl) rfl (by decide) (yq_load rfl fb2_PkS rfl (by first | exact Sees.root (by assumption) | exact Sees.own (by (try simp only [List.append_assoc, List.cons_append, List.nil_append]); repeat (first | exact List.mem_cons_self | exact List.mem_append_left _ (by assumption) | apply List.mem_cons_of_mem | apply List.mem_append_right)) | exact Sees.root (hR _ (by omega)) | exact Sees.own (RowsIn.mem (by (try simp only [List.append_assoc, List.cons_append, List.nil_append]); repeat (first | exact RowsIn.here | exact RowsIn.last | apply RowsIn.there | apply RowsIn.thereS)) _ (by omega)) | exact Sees.own (WRowsIn.mem (by (try simp only [List.append_assoc, List.cons_append, List.nil_append]); repeat (first | exact WRowsIn.here | exact WRowsIn.last | apply WRowsIn.there | apply WRowsIn.thereS)) _ (by omega))) rfl) ?_
    refine Dr.SW.r rfl (.inl rfl) rfl (by decide) (yr_intConv (r := w8 _) rfl Try.underlying2 Try.underlying5 rfl rfl) ?_
    refine Dr.SW.new1 rfl (.inl rfl) rfl (by decide) (yn_lit rfl Try.underlying50 elt5_PkS rfl (by decide) (.cons rfl (.cons rfl (.cons rfl .nil))) (by first | (simp; done) | (simp [cn, cn1, cn0]; done)) rfl rfl rfl) ?_
    intro b37
    refine Dr.SW.c rfl (.inl rfl) rfl (by decide) (yc_appendz 1 rfl rfl Try.underlying50 elt5_PkS rfl rfl (Dr.UpdF.app (by repeat (first | exact UpdF.here | apply UpdF.there | apply UpdF.thereS))) (by first | exact Sees.root (by assumption) | exact Sees.own (by (try simp only [List.append_assoc, List.cons_append, List.nil_append]); repeat (first | exact List.mem_cons_self | exact List.mem_append_left _ (by assumption) | apply List.mem_cons_of_mem | apply List.mem_append_right)) | exact Sees.root (hR _ (by omega)) | exact Sees.own (RowsIn.mem (by (try simp only [List.append_assoc, List.cons_append, List.nil_append]); repeat (first | exact RowsIn.here | exact RowsIn.last | apply RowsIn.there | apply RowsIn.thereS)) _ (by omega)) | exact Sees.own (WRowsIn.mem (by (try simp only [List.append_assoc, List.cons_append, List.nil_append]); repeat (first | exact WRowsIn.here | exact WRowsIn.last | apply WRowsIn.there | apply WRowsIn.thereS)) _ (by omega))) rfl (by first | rfl | (rw [bl_length, Nat.mul_one]) | (simp only [List.length_append, bl_length, Nat.mul_one]; done) | (simp only [List.length_append, bl_length, Nat.mul_one]; rfl)) (by first | rfl | exact bl_length _) (by first | rfl | exact bl_scal _ | (rw [bl_append]; exact bl_scal _)) (by first | rfl | exact bl_scal _) (by first | omega | (rw [bd_len]; omega) | (have := topK_le (f := (f1, f2, f3)) (st := st) (s := (scU vs (vs.length * 3))) (wi := wi) (hi := hi) (de := de) (k := k) (by omega); omega)) (by first | omega | (rw [bd_len]; omega) | (have := topK_le (f := (f1, f2, f3)) (st := st) (s := (scU vs (vs.length * 3))) (wi := wi) (hi := hi) (de := de) (k := k) (by omega); omega))) ?_
    rintro ⟨a38, c38⟩
    refine Dr.SW.r rfl (.inl rfl) rfl (by decide) (yr_assign rfl rfl) ?_
    refine Dr.SW.done ?_
    refine Dr.eqO (by simp only [List.append_nil, List.append_assoc, List.cons_append, List.nil_append] <;> rfl) ?_
    refine VE.then_wp ?_
    refine V.seq ?_
    refine V.seq ?_
    refine V.region ?_
    refine VL.r (.inl rfl) rfl (by decide) (yr_assign (u := .int .i64 0) rfl rfl) ?_
    refine VL.nil ?_
    refine VE.then_wp ?_
    refine V.block ?_
    refine V.loopc (G := Nat × (Option Addr) × Nat) [(0, _), (4, _)] (fun ⟨k, ar, cr⟩ => k ≤ 3 ∧ True) (fun ⟨k, ar, cr⟩ => [⟨ar, bl (hdr wi hi de ++ topK (f1, f2, f3) st (scU vs (vs.length * 3)) (k)), cr * 1, 5⟩]) (fun ⟨k, ar, cr⟩ => [(6, .slice ar (hdr wi hi de ++ topK (f1, f2, f3) st (scU vs (vs.length * 3)) (k)).length cr), (7, .int .i64 (k : Int))]) (fun ⟨k, ar, cr⟩ => 3 - k) (0, a38, c38) (.cons rfl (.cons rfl .nil)) (.cons (congrArg (fun n => some (Value.slice _ n _)) (by rw [topK_0]; rfl)) (.cons rfl .nil)) ?_ ?_ ?_
    · exact (fun w hw => by dsimp only; rw [topK_0]; exact hw.pick (by apply Pick.one; repeat (first | exact Rem.here | apply Rem.there)))
    · exact (by exact ⟨Nat.zero_le _, trivial⟩)
    rintro ⟨k, ar, cr⟩ ⟨hk, _⟩
    show V _ _ _ [⟨ar, bl (hdr wi hi de ++ topK (f1, f2, f3) st (scU vs (vs.length * 3)) (k)), cr * 1, 5⟩] ([(6, .slice ar (hdr wi hi de ++ topK (f1, f2, f3) st (scU vs (vs.length * 3)) (k)).length cr), (7, .int .i64 (k : Int))] ++ [(0, _), (4, _)]) _ _
    refine V.seq ?_
    refine V.seq ?_
    refine V.region ?_
    refine VL.r (.inl rfl) rfl (by decide) (yr_move rfl rfl) ?_
    refine VL.r (.inl rfl) rfl (by decide) (yr_icmp rfl (.inr (.inr (.inl rfl))) rfl rfl) ?_
    refine VL.nil ?_
    refine VE.then_wp ?_
    refine V.cond rfl (fun h2 => ?_) (fun h2 => ?_)
    · skip
      replace h2 := ic_lss h2
      refine V.skip ?_
      refine VE.then_wp ?_
      refine V.seq ?_
      refine V.block ?_
      refine V.region ?_
      refine VL.r (.inl rfl) rfl (by decide) (yr_move rfl rfl) ?_
      refine VL.r (.inl rfl) rfl (by decide) (yr_move rfl rfl) ?_
      refine VL.r (.inl rfl) rfl (by decide) (yr_nilCheck rfl rfl) ?_
      refine VL.r (.inl rfl) rfl (by decide) (yr_fieldAddr rfl Try.underlying30 rfl rfl sz27_PkS (by decide) rfl) ?_
      refine VL.q (.inl rfl) rfl (by decide) (yq_loadS rfl Try.underlying27 sz27_PkS rfl (by first | exact Sees.root (by assumption) | exact Sees.own (by repeat (first | exact List.mem_cons_self | exact List.mem_append_left _ (by assumption) | apply List.mem_cons_of_mem | apply List.mem_append_right)) | exact Sees.root (hR _ (by omega)) | exact Sees.own (RowsIn.mem (by repeat (first | exact RowsIn.here | exact RowsIn.last | apply RowsIn.there | apply RowsIn.thereS)) _ (by omega)) | exact Sees.own (WRowsIn.mem (by repeat (first | exact WRowsIn.here | exact WRowsIn.last | apply WRowsIn.there | apply WRowsIn.thereS)) _ (by omega))) rfl rfl rfl) ?_
      refine VL.r (.inl rfl) rfl (by decide) (yr_move rfl rfl) ?_
      refine VL.q (.inl rfl) rfl (by decide) (yq_callf rfl known127_PkS (.cons rfl (.cons rfl .nil)) (fun w hw => (c_part (j := k) (by omega)))) ?_
      refine VL.new1 (.inl rfl) rfl (by decide) (yn_callf rfl known126_PkS (.cons rfl .nil) (fun w hw => (c_four (can_part hf)))) ?_
      intro b50
      refine VL.c (.inl rfl) rfl (by decide) (yc_appendz 1 rfl rfl Try.underlying50 elt5_PkS rfl rfl (by repeat (first | exact UpdF.here | apply UpdF.there | apply UpdF.thereS)) (by first | exact Sees.root (by assumption) | exact Sees.own (by repeat (first | exact List.mem_cons_self | exact List.mem_append_left _ (by assumption) | apply List.mem_cons_of_mem | apply List.mem_append_right)) | exact Sees.root (hR _ (by omega)) | exact Sees.own (RowsIn.mem (by repeat (first | exact RowsIn.here | exact RowsIn.last | apply RowsIn.there | apply RowsIn.thereS)) _ (by omega)) | exact Sees.own (WRowsIn.mem (by repeat (first | exact WRowsIn.here | exact WRowsIn.last | apply WRowsIn.there | apply WRowsIn.thereS)) _ (by omega))) rfl (by first | rfl | (rw [bl_length, Nat.mul_one]) | (simp only [List.length_append, bl_length, Nat.mul_one]; done) | (simp only [List.length_append, bl_length, Nat.mul_one]; rfl)) (by first | rfl | exact bl_length _) (by first | rfl | exact bl_scal _ | (rw [bl_append]; exact bl_scal _)) (by first | rfl | exact bl_scal _) (by first | omega | (rw [bd_len]; omega) | (have := topK_le (f := (f1, f2, f3)) (st := st) (s := (scU vs (vs.length * 3))) (wi := wi) (hi := hi) (de := de) (k := k) (by omega); omega)) (by first | omega | (rw [bd_len]; omega) | (have := topK_le (f := (f1, f2, f3)) (st := st) (s := (scU vs (vs.length * 3))) (wi := wi) (hi := hi) (de := de) (k := k) (by omega); omega))) ?_
      rintro ⟨a51, c51⟩
      refine VL.r (.inl rfl) rfl (by decide) (yr_assign rfl rfl) ?_
      refine VL.nil ?_
      refine VE.block_normal ?_
      refine VE.then_wp ?_
      refine V.region ?_
      refine VL.r (.inl rfl) rfl (by decide) (yr_move rfl rfl) ?_
      refine VL.r (.inl rfl) rfl (by decide) (yr_int rfl rfl rfl (.inl ⟨rfl, wrap_in (by omega)⟩)) ?_
      refine VL.r (.inl rfl) rfl (by decide) (yr_assign rfl rfl) ?_
      refine VL.nil ?_
      refine VE.round (k + 1, a51, c51) ?_ ?_ ?_ ?_ ?_
      · exact (.cons (congrArg (fun n => some (Value.slice _ n _)) (by rw [topK_succ (by omega), ← List.append_assoc, List.length_append (bs := four _)]; rfl)) (.cons rfl .nil))
      · exact (.cons rfl (.cons rfl .nil))
      · exact (fun w hw => by dsimp only; rw [topK_succ (by omega), ← part_top (by omega), ← List.append_assoc, ← bl_append]; exact hw.pick (by apply Pick.one; repeat (first | exact Rem.here | apply Rem.there)))
      · exact ⟨by omega, trivial⟩
      · (try dsimp only); omega
    · skip
      replace h2 := ic_lss' h2
      refine V.exit ?_
      refine VE.then_exit ?_
      refine VE.then_exit ?_
      refine VE.block_here ?_
      refine VE.then_wp ?_
      refine V.seq ?_
      refine V.region ?_
      refine VL.r (.inl rfl) rfl (by decide) (yr_move rfl rfl) ?_
      refine VL.r (.inl rfl) rfl (by decide) (yr_move rfl rfl) ?_
      refine VL.r (.inl rfl) rfl (by decide) (yr_nilCheck rfl rfl) ?_
      refine VL.r (.inl rfl) rfl (by decide) (yr_fieldAddr rfl Try.underlying30 rfl rfl sz23_PkS (by decide) rfl) ?_
      refine VL.q (.inl rfl) rfl (by decide) (yq_load rfl fb23_PkS rfl (by first | exact Sees.root (by assumption) | exact Sees.own (by repeat (first | exact List.mem_cons_self | exact List.mem_append_left _ (by assumption) | apply List.mem_cons_of_mem | apply List.mem_append_right)) | exact Sees.root (hR _ (by omega)) | exact Sees.own (RowsIn.mem (by repeat (first | exact RowsIn.here | exact RowsIn.last | apply RowsIn.there | apply RowsIn.thereS)) _ (by omega)) | exact Sees.own (WRowsIn.mem (by repeat (first | exact WRowsIn.here | exact WRowsIn.last | apply WRowsIn.there | apply WRowsIn.thereS)) _ (by omega))) rfl) ?_
      refine VL.new1 (.inl rfl) rfl (by decide) (yn_callf rfl known126_PkS (.cons rfl .nil) (fun w hw => (c_four hst))) ?_
      intro b57
      refine VL.c (.inl rfl) rfl (by decide) (yc_appendz 1 rfl rfl Try.underlying50 elt5_PkS rfl rfl (by repeat (first | exact UpdF.here | apply UpdF.there | apply UpdF.thereS)) (by first | exact Sees.root (by assumption) | exact Sees.own (by repeat (first | exact List.mem_cons_self | exact List.mem_append_left _ (by assumption) | apply List.mem_cons_of_mem | apply List.mem_append_right)) | exact Sees.root (hR _ (by omega)) | exact Sees.own (RowsIn.mem (by repeat (first | exact RowsIn.here | exact RowsIn.last | apply RowsIn.there | apply RowsIn.thereS)) _ (by omega)) | exact Sees.own (WRowsIn.mem (by repeat (first | exact WRowsIn.here | exact WRowsIn.last | apply WRowsIn.there | apply WRowsIn.thereS)) _ (by omega))) rfl (by first | rfl | (rw [bl_length, Nat.mul_one]) | (simp only [List.length_append, bl_length, Nat.mul_one]; done) | (simp only [List.length_append, bl_length, Nat.mul_one]; rfl)) (by first | rfl | exact bl_length _) (by first | rfl | exact bl_scal _ | (rw [bl_append]; exact bl_scal _)) (by first | rfl | exact bl_scal _) (by first | omega | (rw [bd_len]; omega) | (have := topK_le (f := (f1, f2, f3)) (st := st) (s := (scU vs (vs.length * 3))) (wi := wi) (hi := hi) (de := de) (k := k) (by omega); omega)) (by first | omega | (rw [bd_len]; omega) | (have := topK_le (f := (f1, f2, f3)) (st := st) (s := (scU vs (vs.length * 3))) (wi := wi) (hi := hi) (de := de) (k := k) (by omega); omega))) ?_
      rintro ⟨a58, c58⟩
      refine VL.r (.inl rfl) rfl (by decide) (yr_assign rfl rfl) ?_
      refine VL.nil ?_
      refine VE.then_wp ?_
      refine V.seq ?_
      refine V.region ?_
      refine VL.r (.inl rfl) rfl (by decide) (yr_move rfl rfl) ?_
      refine VL.r (.inl rfl) rfl (by decide) (yr_move rfl rfl) ?_
      refine VL.new1 (.inl rfl) rfl (by decide) (yn_callf rfl known126_PkS (.cons rfl .nil) (fun w hw => (c_four (can_scU _)))) ?_
      intro b61
      refine VL.c (.inl rfl) rfl (by decide) (yc_appendz 1 rfl rfl Try.underlying50 elt5_PkS rfl rfl (by repeat (first | exact UpdF.here | apply UpdF.there | apply UpdF.thereS)) (by first | exact Sees.root (by assumption) | exact Sees.own (by repeat (first | exact List.mem_cons_self | exact List.mem_append_left _ (by assumption) | apply List.mem_cons_of_mem | apply List.mem_append_right)) | exact Sees.root (hR _ (by omega)) | exact Sees.own (RowsIn.mem (by repeat (first | exact RowsIn.here | exact RowsIn.last | apply RowsIn.there | apply RowsIn.thereS)) _ (by omega)) | exact Sees.own (WRowsIn.mem (by repeat (first | exact WRowsIn.here | exact WRowsIn.last | apply WRowsIn.there | apply WRowsIn.thereS)) _ (by omega))) rfl (by first | rfl | (rw [bl_length, Nat.mul_one]) | (simp only [List.length_append, bl_length, Nat.mul_one]; done) | (simp only [List.length_append, bl_length, Nat.mul_one]; rfl)) (by first | rfl | exact bl_length _) (by first | rfl | exact bl_scal _ | (rw [bl_append]; exact bl_scal _)) (by first | rfl | exact bl_scal _) (by first | omega | (rw [bd_len]; omega) | (have := topK_le (f := (f1, f2, f3)) (st := st) (s := (scU vs (vs.length * 3))) (wi := wi) (hi := hi) (de := de) (k := k) (by omega); omega)) (by first | omega | (rw [bd_len]; omega) | (have := topK_le (f := (f1, f2, f3)) (st := st) (s := (scU vs (vs.length * 3))) (wi := wi) (hi := hi) (de := de) (k := k) (by omega); omega))) ?_
      rintro ⟨a62, c62⟩
      refine VL.r (.inl rfl) rfl (by decide) (yr_assign rfl rfl) ?_
      refine VL.nil ?_
      refine VE.then_wp ?_
      refine V.seq ?_
      refine V.seq ?_
      refine V.region ?_
      refine VL.r (.inl rfl) rfl (by decide) (yr_assign (u := .int .i64 0) rfl rfl) ?_
      refine VL.nil ?_
      refine VE.then_wp ?_
      refine V.block ?_
      refine V.loopc (G := Nat × (Option Addr) × Nat) [(0, _), (4, _)] (fun ⟨i, ar1, cr1⟩ => i ≤ vs.length ∧ True) (fun ⟨i, ar1, cr1⟩ => [⟨ar1, bl (topL (f1, f2, f3) st wi hi de (scU vs (vs.length * 3)) ++ bodyU vs (scU vs (vs.length * 3)) (i * 3)), cr1 * 1, 5⟩]) (fun ⟨i, ar1, cr1⟩ => [(6, .slice ar1 (topL (f1, f2, f3) st wi hi de (scU vs (vs.length * 3)) ++ bodyU vs (scU vs (vs.length * 3)) (i * 3)).length cr1), (8, .int .i64 (i : Int))]) (fun ⟨i, ar1, cr1⟩ => vs.length - i) (0, a62, c62) (.cons rfl (.cons rfl .nil)) (.cons (congrArg (fun n => some (Value.slice _ n _)) (by rw [Nat.zero_mul, body_0, List.append_nil, ← top3, show k = 3 by omega, List.length_append (bs := four (scU vs (vs.length * 3))), List.length_append (bs := four st)]; rfl)) (.cons rfl .nil)) ?_ ?_ ?_
      · exact (fun w hw => by
          obtain rfl : k = 3 := by omega
          dsimp only
          rw [Nat.zero_mul, body_0, List.append_nil, ← top3, ← bl_append, ← bl_append]
          exact hw.pick (by apply Pick.one; repeat (first | exact Rem.here | apply Rem.there)))
      · exact (by exact ⟨Nat.zero_le _, trivial⟩)
      rintro ⟨i, ar1, cr1⟩ ⟨hi9, _⟩
      show V _ _ _ [⟨ar1, bl (topL (f1, f2, f3) st wi hi de (scU vs (vs.length * 3)) ++ bodyU vs (scU vs (vs.length * 3)) (i * 3)), cr1 * 1, 5⟩] ([(6, .slice ar1 (topL (f1, f2, f3) st wi hi de (scU vs (vs.length * 3)) ++ bodyU vs (scU vs (vs.length * 3)) (i * 3)).length cr1), (8, .int .i64 (i : Int))] ++ [(0, _), (4, _)]) _ _
      refine V.seq ?_
      refine V.seq ?_
      refine V.region ?_
      refine VL.r (.inl rfl) rfl (by decide) (yr_move rfl rfl) ?_
      refine VL.r (.inl rfl) rfl (by decide) (yr_move rfl rfl) ?_
      refine VL.r (.inl rfl) rfl (by decide) (yr_nilCheck rfl rfl) ?_
      refine VL.r (.inl rfl) rfl (by decide) (yr_fieldAddr rfl Try.underlying30 rfl rfl sz28_PkS (by decide) rfl) ?_
      refine VL.q (.inl rfl) rfl (by decide) (yq_load rfl fb28_PkS rfl (by first | exact Sees.root (by assumption) | exact Sees.own (by repeat (first | exact List.mem_cons_self | exact List.mem_append_left _ (by assumption) | apply List.mem_cons_of_mem | apply List.mem_append_right)) | exact Sees.root (hR _ (by omega)) | exact Sees.own (RowsIn.mem (by repeat (first | exact RowsIn.here | exact RowsIn.last | apply RowsIn.there | apply RowsIn.thereS)) _ (by omega)) | exact Sees.own (WRowsIn.mem (by repeat (first | exact WRowsIn.here | exact WRowsIn.last | apply WRowsIn.there | apply WRowsIn.thereS)) _ (by omega))) rfl) ?_
      refine VL.r (.inl rfl) rfl (by decide) (yr_len rfl Try.underlying28 rfl) ?_
      refine VL.r (.inl rfl) rfl (by decide) (yr_icmp rfl (.inr (.inr (.inl rfl))) rfl rfl) ?_
      refine VL.nil ?_
      refine VE.then_wp ?_
      refine V.cond rfl (fun h3 => ?_) (fun h3 => ?_)
      · skip
        replace h3 := ic_lss h3
        refine V.skip ?_
        refine VE.then_wp ?_
        refine V.seq ?_
        refine V.block ?_
        refine V.seq ?_
        refine V.region ?_
        refine VL.r (.inl rfl) rfl (by decide) (yr_assign (u := .int .i64 0) rfl rfl) ?_
        refine VL.nil ?_
        refine VE.then_wp ?_
        refine V.block ?_
        refine V.loopc (G := Nat × (Option Addr) × Nat) [(0, _), (4, _), (8, _)] (fun ⟨j, ar2, cr2⟩ => j ≤ 3 ∧ True) (fun ⟨j, ar2, cr2⟩ => [⟨ar2, bl (topL (f1, f2, f3) st wi hi de (scU vs (vs.length * 3)) ++ bodyU vs (scU vs (vs.length * 3)) (i * 3 + j)), cr2 * 1, 5⟩]) (fun ⟨j, ar2, cr2⟩ => [(6, .slice ar2 (topL (f1, f2, f3) st wi hi de (scU vs (vs.length * 3)) ++ bodyU vs (scU vs (vs.length * 3)) (i * 3 + j)).length cr2), (9, .int .i64 (j : Int))]) (fun ⟨j, ar2, cr2⟩ => 3 - j) (0, ar1, cr1) (.cons rfl (.cons rfl (.cons rfl .nil))) (.cons rfl (.cons rfl .nil)) ?_ ?_ ?_
        · exact (fun w hw => hw)
        · exact (by exact ⟨Nat.zero_le _, trivial⟩)
        rintro ⟨j, ar2, cr2⟩ ⟨hj, _⟩
        show V _ _ _ [⟨ar2, bl (topL (f1, f2, f3) st wi hi de (scU vs (vs.length * 3)) ++ bodyU vs (scU vs (vs.length * 3)) (i * 3 + j)), cr2 * 1, 5⟩] ([(6, .slice ar2 (topL (f1, f2, f3) st wi hi de (scU vs (vs.length * 3)) ++ bodyU vs (scU vs (vs.length * 3)) (i * 3 + j)).length cr2), (9, .int .i64 (j : Int))] ++ [(0, _), (4, _), (8, _)]) _ _
        refine V.seq ?_
        refine V.seq ?_
        refine V.region ?_
        refine VL.r (.inl rfl) rfl (by decide) (yr_move rfl rfl) ?_
        refine VL.r (.inl rfl) rfl (by decide) (yr_icmp rfl (.inr (.inr (.inl rfl))) rfl rfl) ?_
        refine VL.nil ?_
        refine VE.then_wp ?_
        refine V.cond rfl (fun h4 => ?_) (fun h4 => ?_)
        · skip
          replace h4 := ic_lss h4
          refine V.skip ?_
          refine VE.then_wp ?_
          refine V.seq ?_
          refine V.block ?_
          refine V.seq ?_
          refine V.region ?_
          refine VL.r (.inl rfl) rfl (by decide) (yr_assign (u := .int .i64 0) rfl rfl) ?_
          refine VL.nil ?_
          refine VE.then_wp ?_
          refine V.seq ?_
          refine V.seq ?_
          refine V.region ?_
          refine VL.r (.inl rfl) rfl (by decide) (yr_move rfl rfl) ?_
          refine VL.r (.inl rfl) rfl (by decide) (yr_fcmp (b := 0) rfl (.inr (.inr (.inr (.inr (.inl rfl))))) rfl rfl) ?_
          refine VL.nil ?_
          refine VE.then_wp ?_
          refine V.cond rfl (fun h5 => ?_) (fun h5 => ?_)
          · skip
            refine V.seq ?_
            refine V.region ?_
            refine VL.r (.inl rfl) rfl (by decide) (yr_move rfl rfl) ?_
            refine VL.r (.inl rfl) rfl (by decide) (yr_nilCheck rfl rfl) ?_
            refine VL.r (.inl rfl) rfl (by decide) (yr_fieldAddr rfl Try.underlying30 rfl rfl sz28_PkS (by decide) rfl) ?_
            refine VL.q (.inl rfl) rfl (by decide) (yq_load rfl fb28_PkS rfl (by first | exact Sees.root (by assumption) | exact Sees.own (by repeat (first | exact List.mem_cons_self | exact List.mem_append_left _ (by assumption) | apply List.mem_cons_of_mem | apply List.mem_append_right)) | exact Sees.root (hR _ (by omega)) | exact Sees.own (RowsIn.mem (by repeat (first | exact RowsIn.here | exact RowsIn.last | apply RowsIn.there | apply RowsIn.thereS)) _ (by omega)) | exact Sees.own (WRowsIn.mem (by repeat (first | exact WRowsIn.here | exact WRowsIn.last | apply WRowsIn.there | apply WRowsIn.thereS)) _ (by omega))) rfl) ?_
            refine VL.r (.inl rfl) rfl (by decide) (yr_move rfl rfl) ?_
            refine VL.q (.inl rfl) rfl (by decide) (yq_idxN (k := i) rfl Try.underlying28 sz27_PkS rfl rfl (by first | exact Sees.root (by assumption) | exact Sees.own (by repeat (first | exact List.mem_cons_self | exact List.mem_append_left _ (by assumption) | apply List.mem_cons_of_mem | apply List.mem_append_right)) | exact Sees.root (hR _ (by omega)) | exact Sees.own (RowsIn.mem (by repeat (first | exact RowsIn.here | exact RowsIn.last | apply RowsIn.there | apply RowsIn.thereS)) _ (by omega)) | exact Sees.own (WRowsIn.mem (by repeat (first | exact WRowsIn.here | exact WRowsIn.last | apply WRowsIn.there | apply WRowsIn.thereS)) _ (by omega))) (by first | rfl | omega | (push_cast; rfl) | (push_cast; omega) | exact tmod_nat _ _) (by exact vl_length _) (by decide) (by omega)) ?_
            refine VL.q (.inl rfl) rfl (by decide) (yq_loadV rfl Try.underlying27 sz27_PkS rfl (by first | exact Sees.root (by assumption) | exact Sees.own (by repeat (first | exact List.mem_cons_self | exact List.mem_append_left _ (by assumption) | apply List.mem_cons_of_mem | apply List.mem_append_right)) | exact Sees.root (hR _ (by omega)) | exact Sees.own (RowsIn.mem (by repeat (first | exact RowsIn.here | exact RowsIn.last | apply RowsIn.there | apply RowsIn.thereS)) _ (by omega)) | exact Sees.own (WRowsIn.mem (by repeat (first | exact WRowsIn.here | exact WRowsIn.last | apply WRowsIn.there | apply WRowsIn.thereS)) _ (by omega))) (by omega)) ?_
            refine VL.r (.inl rfl) rfl (by decide) (yr_move rfl rfl) ?_
            refine VL.q (.inl rfl) rfl (by decide) (yq_callf rfl known127_PkS (.cons rfl (.cons rfl .nil)) (fun w hw => (c_part (j := j) (by omega)))) ?_
            refine VL.r (.inl rfl) rfl (by decide) (yr_fconv rfl Try.underlying23 Try.underlying56 (by decide) rfl (fover_up _)) ?_
            refine VL.r (.inl rfl) rfl (by decide) (yr_move rfl rfl) ?_
            refine VL.r (.inl rfl) rfl (by decide) (yr_fconv rfl Try.underlying23 Try.underlying56 (by decide) rfl (fover_up _)) ?_
            refine VL.r (.inl rfl) rfl (by decide) (yr_float rfl (.inr (.inr (.inr rfl))) rfl rfl) ?_
            refine VL.r (.inl rfl) rfl (by decide) (yr_assign rfl rfl) ?_
            refine VL.nil ?_
            refine VE.then_wp ?_
            refine V.region ?_
            refine VL.r (.inl rfl) rfl (by decide) (yr_move rfl rfl) ?_
            refine VL.r (.inl rfl) rfl (by decide) (yr_float (a := 4674736138332667904) rfl (.inr (.inr (.inl rfl))) rfl rfl) ?_
            refine VL.q (.inl rfl) rfl (by decide) (yq_ext rfl ext100_PkS (.cons rfl .nil) (fun vs w h => ext_round vs w h)) ?_
            refine VL.r (.inl rfl) rfl (by decide) (yr_toInt (i := qI (scU vs (vs.length * 3)) (part3 (vs.getD i z3) j)) rfl Try.underlying56 Try.underlying2 rfl (qI_isX hall (by assumption) (num_part (vs := vs) (i := i) (j := j) (by omega)) (by omega))) ?_
            refine VL.r (.inl rfl) rfl (by decide) (yr_assign rfl rfl) ?_
            refine VL.nil ?_
            refine VE.then_wp ?_
            refine V.region ?_
            refine VL.r (.inl rfl) rfl (by decide) (yr_move rfl rfl) ?_
            refine VL.r (.inl rfl) rfl (by decide) (yr_move rfl rfl) ?_
            refine VL.r (.inl rfl) rfl (by decide) (yr_bits rfl rfl rfl (.inl ⟨rfl, and255 _⟩)) ?_
            refine VL.r (.inl rfl) rfl (by decide) (yr_intConv (r := w8 _) rfl Try.underlying2 Try.underlying5 rfl (w8_255 _)) ?_
            refine VL.r (.inl rfl) rfl (by decide) (yr_move rfl rfl) ?_
            refine VL.r (.inl rfl) rfl (by decide) (yr_shr (b := 8) rfl rfl rfl rfl) ?_
            refine VL.r (.inl rfl) rfl (by decide) (yr_bits rfl rfl rfl (.inl ⟨rfl, and255 _⟩)) ?_
            refine VL.r (.inl rfl) rfl (by decide) (yr_intConv (r := w8 _) rfl Try.underlying2 Try.underlying5 rfl (w8_255 _)) ?_
            refine VL.new1 (.inl rfl) rfl (by decide) (yn_lit rfl Try.underlying50 elt5_PkS rfl (by decide) (.cons rfl (.cons rfl .nil)) (by first | (simp; done) | (simp [cn, cn1, cn0]; done)) rfl rfl rfl) ?_
            intro b103
            refine VL.c (.inl rfl) rfl (by decide) (yc_appendz 1 rfl rfl Try.underlying50 elt5_PkS rfl rfl (by repeat (first | exact UpdF.here | apply UpdF.there | apply UpdF.thereS)) (by first | exact Sees.root (by assumption) | exact Sees.own (by repeat (first | exact List.mem_cons_self | exact List.mem_append_left _ (by assumption) | apply List.mem_cons_of_mem | apply List.mem_append_right)) | exact Sees.root (hR _ (by omega)) | exact Sees.own (RowsIn.mem (by repeat (first | exact RowsIn.here | exact RowsIn.last | apply RowsIn.there | apply RowsIn.thereS)) _ (by omega)) | exact Sees.own (WRowsIn.mem (by repeat (first | exact WRowsIn.here | exact WRowsIn.last | apply WRowsIn.there | apply WRowsIn.thereS)) _ (by omega))) rfl (by first | rfl | (rw [bl_length, Nat.mul_one]) | (simp only [List.length_append, bl_length, Nat.mul_one]; done) | (simp only [List.length_append, bl_length, Nat.mul_one]; rfl)) (by first | rfl | exact bl_length _) (by first | rfl | exact bl_scal _ | (rw [bl_append]; exact bl_scal _)) (by first | rfl | exact bl_scal _) (by first | omega | (rw [bd_len]; omega) | (have := topK_le (f := (f1, f2, f3)) (st := st) (s := (scU vs (vs.length * 3))) (wi := wi) (hi := hi) (de := de) (k := k) (by omega); omega)) (by first | omega | (rw [bd_len]; omega) | (have := topK_le (f := (f1, f2, f3)) (st := st) (s := (scU vs (vs.length * 3))) (wi := wi) (hi := hi) (de := de) (k := k) (by omega); omega))) ?_
            rintro ⟨a104, c104⟩
            refine VL.r (.inl rfl) rfl (by decide) (yr_assign rfl rfl) ?_
            refine VL.nil ?_
            refine VE.block_normal ?_
            refine VE.then_wp ?_
            refine V.region ?_
            refine VL.r (.inl rfl) rfl (by decide) (yr_move rfl rfl) ?_
            refine VL.r (.inl rfl) rfl (by decide) (yr_int rfl rfl rfl (.inl ⟨rfl, wrap_in (by omega)⟩)) ?_
            refine VL.r (.inl rfl) rfl (by decide) (yr_assign rfl rfl) ?_
            refine VL.nil ?_
            refine VE.round (j + 1, a104, c104) ?_ ?_ ?_ ?_ ?_
            · exact (.cons (congrArg (fun n => some (Value.slice _ n _)) (by rw [← Nat.add_assoc, bodyU, ← List.append_assoc, List.length_append (bs := [_, _])]; rfl)) (.cons rfl .nil))
            · exact (.cons rfl (.cons rfl (.cons rfl .nil)))
            · exact (fun w hw => by
                have h9 := hw.sub (List.sublist_cons_self _ _)
                dsimp only
                rw [← Nat.add_assoc, ← body_s (num_part (vs := vs) (i := i) (j := j) (by omega)) (q := _) (q2 := _) (by first | exact qz_y (by assumption) | exact qz_n (by assumption)) rfl]
                exact h9)
            · exact ⟨by omega, trivial⟩
            · (try dsimp only); omega
          · skip
            refine V.skip ?_
            refine VE.then_wp ?_
            refine V.region ?_
            refine VL.r (.inl rfl) rfl (by decide) (yr_move rfl rfl) ?_
            refine VL.r (.inl rfl) rfl (by decide) (yr_move rfl rfl) ?_
            refine VL.r (.inl rfl) rfl (by decide) (yr_bits rfl rfl rfl (.inl ⟨rfl, and255 _⟩)) ?_
            refine VL.r (.inl rfl) rfl (by decide) (yr_intConv (r := w8 _) rfl Try.underlying2 Try.underlying5 rfl (w8_255 _)) ?_
            refine VL.r (.inl rfl) rfl (by decide) (yr_move rfl rfl) ?_
            refine VL.r (.inl rfl) rfl (by decide) (yr_shr (b := 8) rfl rfl rfl rfl) ?_
            refine VL.r (.inl rfl) rfl (by decide) (yr_bits rfl rfl rfl (.inl ⟨rfl, and255 _⟩)) ?_
            refine VL.r (.inl rfl) rfl (by decide) (yr_intConv (r := w8 _) rfl Try.underlying2 Try.underlying5 rfl (w8_255 _)) ?_
            refine VL.new1 (.inl rfl) rfl (by decide) (yn_lit rfl Try.underlying50 elt5_PkS rfl (by decide) (.cons rfl (.cons rfl .nil)) (by first | (simp; done) | (simp [cn, cn1, cn0]; done)) rfl rfl rfl) ?_
            intro b103
            refine VL.c (.inl rfl) rfl (by decide) (yc_appendz 1 rfl rfl Try.underlying50 elt5_PkS rfl rfl (by repeat (first | exact UpdF.here | apply UpdF.there | apply UpdF.thereS)) (by first | exact Sees.root (by assumption) | exact Sees.own (by repeat (first | exact List.mem_cons_self | exact List.mem_append_left _ (by assumption) | apply List.mem_cons_of_mem | apply List.mem_append_right)) | exact Sees.root (hR _ (by omega)) | exact Sees.own (RowsIn.mem (by repeat (first | exact RowsIn.here | exact RowsIn.last | apply RowsIn.there | apply RowsIn.thereS)) _ (by omega)) | exact Sees.own (WRowsIn.mem (by repeat (first | exact WRowsIn.here | exact WRowsIn.last | apply WRowsIn.there | apply WRowsIn.thereS)) _ (by omega))) rfl (by first | rfl | (rw [bl_length, Nat.mul_one]) | (simp only [List.length_append, bl_length, Nat.mul_one]; done) | (simp only [List.length_append, bl_length, Nat.mul_one]; rfl)) (by first | rfl | exact bl_length _) (by first | rfl | exact bl_scal _ | (rw [bl_append]; exact bl_scal _)) (by first | rfl | exact bl_scal _) (by first | omega | (rw [bd_len]; omega) | (have := topK_le (f := (f1, f2, f3)) (st := st) (s := (scU vs (vs.length * 3))) (wi := wi) (hi := hi) (de := de) (k := k) (by omega); omega)) (by first | omega | (rw [bd_len]; omega) | (have := topK_le (f := (f1, f2, f3)) (st := st) (s := (scU vs (vs.length * 3))) (wi := wi) (hi := hi) (de := de) (k := k) (by omega); omega))) ?_
            rintro ⟨a104, c104⟩
            refine VL.r (.inl rfl) rfl (by decide) (yr_assign rfl rfl) ?_
            refine VL.nil ?_
            refine VE.block_normal ?_
            refine VE.then_wp ?_
            refine V.region ?_
            refine VL.r (.inl rfl) rfl (by decide) (yr_move rfl rfl) ?_
            refine VL.r (.inl rfl) rfl (by decide) (yr_int rfl rfl rfl (.inl ⟨rfl, wrap_in (by omega)⟩)) ?_
            refine VL.r (.inl rfl) rfl (by decide) (yr_assign rfl rfl) ?_
            refine VL.nil ?_
            refine VE.round (j + 1, a104, c104) ?_ ?_ ?_ ?_ ?_
            · exact (.cons (congrArg (fun n => some (Value.slice _ n _)) (by rw [← Nat.add_assoc, bodyU, ← List.append_assoc, List.length_append (bs := [_, _])]; rfl)) (.cons rfl .nil))
            · exact (.cons rfl (.cons rfl (.cons rfl .nil)))
            · exact (fun w hw => by
                have h9 := hw.sub (List.sublist_cons_self _ _)
                dsimp only
                rw [← Nat.add_assoc, ← body_s (num_part (vs := vs) (i := i) (j := j) (by omega)) (q := _) (q2 := _) (by first | exact qz_y (by assumption) | exact qz_n (by assumption)) rfl]
                exact h9)
            · exact ⟨by omega, trivial⟩
            · (try dsimp only); omega
        · skip
          replace h4 := ic_lss' h4
          refine V.exit ?_
          refine VE.then_exit ?_
          refine VE.then_exit ?_
          refine VE.block_here ?_
          refine VE.block_normal ?_
          refine VE.then_wp ?_
          refine V.region ?_
          refine VL.r (.inl rfl) rfl (by decide) (yr_move rfl rfl) ?_
          refine VL.r (.inl rfl) rfl (by decide) (yr_int rfl rfl rfl (.inl ⟨rfl, wrap_in (by omega)⟩)) ?_
          refine VL.r (.inl rfl) rfl (by decide) (yr_assign rfl rfl) ?_
          refine VL.nil ?_
          refine VE.round (i + 1, ar2, cr2) ?_ ?_ ?_ ?_ ?_
          · exact (.cons (congrArg (fun n => some (Value.slice _ n _)) (by rw [show (i + 1) * 3 = i * 3 + j by omega])) (.cons rfl .nil))
          · exact (.cons rfl (.cons rfl .nil))
          · exact (fun w hw => by dsimp only; rw [show (i + 1) * 3 = i * 3 + j by omega]; exact hw)
          · exact ⟨by omega, trivial⟩
          · (try dsimp only); omega
      · skip
        replace h3 := ic_lss' h3
        refine V.exit ?_
        refine VE.then_exit ?_
        refine VE.then_exit ?_
        refine VE.block_here ?_
        refine VE.then_wp ?_
        refine V.seq ?_
        refine V.region ?_
        refine VL.r (.inl rfl) rfl (by decide) (yr_move rfl rfl) ?_
        refine VL.q (.inl rfl) rfl (by decide) (yq_bts rfl Try.underlying50 Try.underlying5 Try.underlying9 rfl (by first | exact Sees.root (by assumption) | exact Sees.own (by repeat (first | exact List.mem_cons_self | exact List.mem_append_left _ (by assumption) | apply List.mem_cons_of_mem | apply List.mem_append_right)) | exact Sees.root (hR _ (by omega)) | exact Sees.own (RowsIn.mem (by repeat (first | exact RowsIn.here | exact RowsIn.last | apply RowsIn.there | apply RowsIn.thereS)) _ (by omega)) | exact Sees.own (WRowsIn.mem (by repeat (first | exact WRowsIn.here | exact WRowsIn.last | apply WRowsIn.there | apply WRowsIn.thereS)) _ (by omega))) rfl) ?_
        refine VL.r (.inl rfl) rfl (by decide) (yr_assign rfl rfl) ?_
        refine VL.r (.inl rfl) rfl (by decide) (yr_assign (u := .bool true) rfl rfl) ?_
        refine VL.nil ?_
        refine VE.then_wp ?_
        refine V.ret ?_
        refine ret2 rfl rfl rfl (by nofun) (by nofun) (fun w1 hw => ?_)
        first
          | (have h8 : allF vs (vs.length * 3) = false := by assumption
             exact ⟨by rw [h8]; rfl, hw.below⟩)
          | (obtain rfl : i = vs.length := by omega
             exact ⟨by rw [hall]; rfl, hw.below⟩)

end Go.Proofs.Ytnommdpgmoljcaa


namespace Go.Proofs.Ytnommdpgmoljcaa
open Go.RowKit
set_option linter.unusedVariables false
set_option linter.unusedSimpArgs false
set_option maxRecDepth 20000

theorem zero27_UnS : (Try.prog.info? 27).bind (·.zero) = some (Value.agg #[Value.float .f32 0, Value.float .f32 0, Value.float .f32 0]) := by kernel_rfl
theorem lay27_UnS : Lay Try.prog 27 [Value.float .f32 0, Value.float .f32 0, Value.float .f32 0] [(0, 1), (1, 1), (2, 1)] := Lay.mk' (by kernel_rfl) (by kernel_rfl)
theorem sz27_UnS : (Try.prog.info? 27).map (·.size) = some 3 := by kernel_rfl
theorem sz23_UnS : (Try.prog.info? 23).map (·.size) = some 1 := by kernel_rfl
theorem zero30_UnS : (Try.prog.info? 30).bind (·.zero) = some (Value.agg #[Value.float .f32 0, Value.float .f32 0, Value.float .f32 0, Value.float .f32 0, Value.int .i64 0, Value.int .i64 0, Value.int .i64 0, Value.slice none 0 0]) := by kernel_rfl
theorem mixed_UnS : Try.prog.follows .mixedOrders = true := by kernel_rfl
theorem lay30_UnS : Lay Try.prog 30 [Value.float .f32 0, Value.float .f32 0, Value.float .f32 0, Value.float .f32 0, Value.int .i64 0, Value.int .i64 0, Value.int .i64 0, Value.slice none 0 0] [(0, 3), (3, 1), (4, 1), (5, 1), (6, 1), (7, 1)] := Lay.mk' (by kernel_rfl) (by kernel_rfl)
theorem sz30_UnS : (Try.prog.info? 30).map (·.size) = some 8 := by kernel_rfl
theorem known38_UnS : Known Try.prog 38 := Known.mk' Try.func38 (by kernel_rfl)
theorem elt27_UnS : Elt Try.prog 27 [Value.float .f32 0, Value.float .f32 0, Value.float .f32 0] 12 := Elt.mk' (by kernel_rfl) (by decide)
theorem known90_UnS : Known Try.prog 90 := Known.mk' Try.func90 (by kernel_rfl)
theorem sz2_UnS : (Try.prog.info? 2).map (·.size) = some 1 := by kernel_rfl
theorem fb2_UnS : flatB Try.prog 2 = true := by kernel_rfl
theorem known91_UnS : Known Try.prog 91 := Known.mk' Try.func91 (by kernel_rfl)
theorem known92_UnS : Known Try.prog 92 := Known.mk' Try.func92 (by kernel_rfl)
theorem known82_UnS : Known Try.prog 82 := Known.mk' Try.func82 (by kernel_rfl)
theorem sz28_UnS : (Try.prog.info? 28).map (·.size) = some 1 := by kernel_rfl
theorem fb28_UnS : flatB Try.prog 28 = true := by kernel_rfl
theorem known68_UnS : Known Try.prog 68 := Known.mk' Try.func68 (by kernel_rfl)
theorem known93_UnS : Known Try.prog 93 := Known.mk' Try.func93 (by kernel_rfl)
theorem known54_UnS : Known Try.prog 54 := Known.mk' Try.func54 (by kernel_rfl)
attribute [local irreducible] fop fcmp fconv fneg fabs List.getD sb rd4 rd2 q16 unX unOk unPre unMs allF pkL stb num part3 axis3

theorem c_axis {w : World} {j x : Nat} (hj : j < 3) : Pure Try.prog 92 [.int .i64 (j : Int), .float .f32 x] w (vv (axis3 j x)) := by
  refine Pure.enter Try.func92 rfl Try.ntmps92 (Nat.le_of_ble_eq_true rfl) ?_
  refine V.seq ?_
  refine V.region ?_
  refine VL.new1 (.inl rfl) rfl (by decide) (yn_alloc rfl zero27_UnS rfl) ?_
  intro b4
  refine VL.nil ?_
  refine VE.then_wp ?_
  refine V.seq ?_
  refine V.region ?_
  refine VL.r (.inl rfl) rfl (by decide) (yr_build rfl lay27_UnS rfl .nil (by first | (simp; done) | (simp [vv]; done) | (simp [cn, cn1, cn0]; done)) rfl) ?_
  refine VL.new1 (.inl rfl) rfl (by decide) (yn_alloc rfl zero27_UnS rfl) ?_
  intro b5
  refine VL.s (.inl rfl) rfl (yc_store rfl sz27_UnS rfl rfl (by repeat (first | exact UpdF.here | apply UpdF.there | apply UpdF.thereS)) (.inr ⟨rfl, rfl⟩) rfl (by first | exact Nat.le_of_ble_eq_true rfl | simp) (by decide) rfl) ?_
  rintro ⟨⟩
  refine VL.nil ?_
  refine VE.then_wp ?_
  refine V.seq ?_
  refine V.seq ?_
  refine V.region ?_
  refine VL.r (.inl rfl) rfl (by decide) (yr_move rfl rfl) ?_
  refine VL.nil ?_
  refine VE.then_wp ?_
  refine V.block ?_
  refine V.seq ?_
  refine V.region ?_
  refine VL.r (.inl rfl) rfl (by decide) (yr_icmp rfl (.inl rfl) rfl rfl) ?_
  refine VL.r (.inl rfl) rfl (by decide) (yr_assign rfl rfl) ?_
  refine VL.nil ?_
  refine VE.then_wp ?_
  refine V.cond rfl (fun h1 => ?_) (fun h1 => ?_)
  · skip
    replace h1 := ic_eql h1
    refine V.region ?_
    refine VL.r (.inl rfl) rfl (by decide) (yr_move rfl rfl) ?_
    refine VL.r (.inl rfl) rfl (by decide) (yr_fieldAddr rfl Try.underlying27 rfl rfl sz23_UnS (by decide) rfl) ?_
    refine VL.s (.inl rfl) rfl (yc_store rfl sz23_UnS rfl rfl (by repeat (first | exact UpdF.here | apply UpdF.there | apply UpdF.thereS)) (.inl ⟨rfl, rfl⟩) rfl (by first | exact Nat.le_of_ble_eq_true rfl | simp) (by decide) rfl) ?_
    rintro ⟨⟩
    refine VL.nil ?_
    refine VE.block_normal ?_
    refine VE.then_wp ?_
    refine V.seq ?_
    refine V.region ?_
    refine VL.q (.inl rfl) rfl (by decide) (yq_loadS rfl Try.underlying27 sz27_UnS rfl (by first | exact Sees.root (by assumption) | exact Sees.own (by repeat (first | exact List.mem_cons_self | exact List.mem_append_left _ (by assumption) | apply List.mem_cons_of_mem | apply List.mem_append_right)) | exact Sees.root (hR _ (by omega)) | exact Sees.own (RowsIn.mem (by repeat (first | exact RowsIn.here | exact RowsIn.last | apply RowsIn.there | apply RowsIn.thereS)) _ (by omega)) | exact Sees.own (WRowsIn.mem (by repeat (first | exact WRowsIn.here | exact WRowsIn.last | apply WRowsIn.there | apply WRowsIn.thereS)) _ (by omega))) rfl rfl rfl) ?_
    refine VL.s (.inl rfl) rfl (yc_store rfl sz27_UnS rfl rfl (by repeat (first | exact UpdF.here | apply UpdF.there | apply UpdF.thereS)) (.inr ⟨rfl, rfl⟩) rfl (by first | exact Nat.le_of_ble_eq_true rfl | simp) (by decide) rfl) ?_
    rintro ⟨⟩
    refine VL.nil ?_
    refine VE.then_wp ?_
    refine V.ret ?_
    refine retC rfl (rv_cellS rfl Try.underlying27 sz27_UnS (by first | exact Sees.root (by assumption) | exact Sees.own (by repeat (first | exact List.mem_cons_self | exact List.mem_append_left _ (by assumption) | apply List.mem_cons_of_mem | apply List.mem_append_right)) | exact Sees.root (hR _ (by omega)) | exact Sees.own (RowsIn.mem (by repeat (first | exact RowsIn.here | exact RowsIn.last | apply RowsIn.there | apply RowsIn.thereS)) _ (by omega)) | exact Sees.own (WRowsIn.mem (by repeat (first | exact WRowsIn.here | exact WRowsIn.last | apply WRowsIn.there | apply WRowsIn.thereS)) _ (by omega))) rfl rfl rfl) (by nofun) (fun w1 hw => ?_)
    first
      | (obtain rfl : j = 0 := by omega
         exact ⟨by rw [axis3_0]; rfl, hw.below⟩)
      | (obtain rfl : j = 1 := by omega
         exact ⟨by rw [axis3_1]; rfl, hw.below⟩)
      | (obtain rfl : j = 2 := by omega
         exact ⟨by rw [axis3_2]; rfl, hw.below⟩)
  · skip
    replace h1 := ic_eql' h1
    refine V.seq ?_
    refine V.region ?_
    refine VL.r (.inl rfl) rfl (by decide) (yr_icmp rfl (.inl rfl) rfl rfl) ?_
    refine VL.r (.inl rfl) rfl (by decide) (yr_assign rfl rfl) ?_
    refine VL.nil ?_
    refine VE.then_wp ?_
    refine V.cond rfl (fun h2 => ?_) (fun h2 => ?_)
    · skip
      replace h2 := ic_eql h2
      refine V.region ?_
      refine VL.r (.inl rfl) rfl (by decide) (yr_move rfl rfl) ?_
      refine VL.r (.inl rfl) rfl (by decide) (yr_fieldAddr rfl Try.underlying27 rfl rfl sz23_UnS (by decide) rfl) ?_
      refine VL.s (.inl rfl) rfl (yc_store rfl sz23_UnS rfl rfl (by repeat (first | exact UpdF.here | apply UpdF.there | apply UpdF.thereS)) (.inl ⟨rfl, rfl⟩) rfl (by first | exact Nat.le_of_ble_eq_true rfl | simp) (by decide) rfl) ?_
      rintro ⟨⟩
      refine VL.nil ?_
      refine VE.block_normal ?_
      refine VE.then_wp ?_
      refine V.seq ?_
      refine V.region ?_
      refine VL.q (.inl rfl) rfl (by decide) (yq_loadS rfl Try.underlying27 sz27_UnS rfl (by first | exact Sees.root (by assumption) | exact Sees.own (by repeat (first | exact List.mem_cons_self | exact List.mem_append_left _ (by assumption) | apply List.mem_cons_of_mem | apply List.mem_append_right)) | exact Sees.root (hR _ (by omega)) | exact Sees.own (RowsIn.mem (by repeat (first | exact RowsIn.here | exact RowsIn.last | apply RowsIn.there | apply RowsIn.thereS)) _ (by omega)) | exact Sees.own (WRowsIn.mem (by repeat (first | exact WRowsIn.here | exact WRowsIn.last | apply WRowsIn.there | apply WRowsIn.thereS)) _ (by omega))) rfl rfl rfl) ?_
      refine VL.s (.inl rfl) rfl (yc_store rfl sz27_UnS rfl rfl (by repeat (first | exact UpdF.here | apply UpdF.there | apply UpdF.thereS)) (.inr ⟨rfl, rfl⟩) rfl (by first | exact Nat.le_of_ble_eq_true rfl | simp) (by decide) rfl) ?_
      rintro ⟨⟩
      refine VL.nil ?_
      refine VE.then_wp ?_
      refine V.ret ?_
      refine retC rfl (rv_cellS rfl Try.underlying27 sz27_UnS (by first | exact Sees.root (by assumption) | exact Sees.own (by repeat (first | exact List.mem_cons_self | exact List.mem_append_left _ (by assumption) | apply List.mem_cons_of_mem | apply List.mem_append_right)) | exact Sees.root (hR _ (by omega)) | exact Sees.own (RowsIn.mem (by repeat (first | exact RowsIn.here | exact RowsIn.last | apply RowsIn.there | apply RowsIn.thereS)) _ (by omega)) | exact Sees.own (WRowsIn.mem (by repeat (first | exact WRowsIn.here | exact WRowsIn.last | apply WRowsIn.there | apply WRowsIn.thereS)) _ (by omega))) rfl rfl rfl) (by nofun) (fun w1 hw => ?_)
      first
        | (obtain rfl : j = 0 := by omega
           exact ⟨by rw [axis3_0]; rfl, hw.below⟩)
        | (obtain rfl : j = 1 := by omega
           exact ⟨by rw [axis3_1]; rfl, hw.below⟩)
        | (obtain rfl : j = 2 := by omega
           exact ⟨by rw [axis3_2]; rfl, hw.below⟩)
    · skip
      replace h2 := ic_eql' h2
      refine V.region ?_
      refine VL.r (.inl rfl) rfl (by decide) (yr_move rfl rfl) ?_
      refine VL.r (.inl rfl) rfl (by decide) (yr_fieldAddr rfl Try.underlying27 rfl rfl sz23_UnS (by decide) rfl) ?_
      refine VL.s (.inl rfl) rfl (yc_store rfl sz23_UnS rfl rfl (by repeat (first | exact UpdF.here | apply UpdF.there | apply UpdF.thereS)) (.inl ⟨rfl, rfl⟩) rfl (by first | exact Nat.le_of_ble_eq_true rfl | simp) (by decide) rfl) ?_
      rintro ⟨⟩
      refine VL.nil ?_
      refine VE.block_normal ?_
      refine VE.then_wp ?_
      refine V.seq ?_
      refine V.region ?_
      refine VL.q (.inl rfl) rfl (by decide) (yq_loadS rfl Try.underlying27 sz27_UnS rfl (by first | exact Sees.root (by assumption) | exact Sees.own (by repeat (first | exact List.mem_cons_self | exact List.mem_append_left _ (by assumption) | apply List.mem_cons_of_mem | apply List.mem_append_right)) | exact Sees.root (hR _ (by omega)) | exact Sees.own (RowsIn.mem (by repeat (first | exact RowsIn.here | exact RowsIn.last | apply RowsIn.there | apply RowsIn.thereS)) _ (by omega)) | exact Sees.own (WRowsIn.mem (by repeat (first | exact WRowsIn.here | exact WRowsIn.last | apply WRowsIn.there | apply WRowsIn.thereS)) _ (by omega))) rfl rfl rfl) ?_
      refine VL.s (.inl rfl) rfl (yc_store rfl sz27_UnS rfl rfl (by repeat (first | exact UpdF.here | apply UpdF.there | apply UpdF.thereS)) (.inr ⟨rfl, rfl⟩) rfl (by first | exact Nat.le_of_ble_eq_true rfl | simp) (by decide) rfl) ?_
      rintro ⟨⟩
      refine VL.nil ?_
      refine VE.then_wp ?_
      refine V.ret ?_
      refine retC rfl (rv_cellS rfl Try.underlying27 sz27_UnS (by first | exact Sees.root (by assumption) | exact Sees.own (by repeat (first | exact List.mem_cons_self | exact List.mem_append_left _ (by assumption) | apply List.mem_cons_of_mem | apply List.mem_append_right)) | exact Sees.root (hR _ (by omega)) | exact Sees.own (RowsIn.mem (by repeat (first | exact RowsIn.here | exact RowsIn.last | apply RowsIn.there | apply RowsIn.thereS)) _ (by omega)) | exact Sees.own (WRowsIn.mem (by repeat (first | exact WRowsIn.here | exact WRowsIn.last | apply WRowsIn.there | apply WRowsIn.thereS)) _ (by omega))) rfl rfl rfl) (by nofun) (fun w1 hw => ?_)
      first
        | (obtain rfl : j = 0 := by omega
           exact ⟨by rw [axis3_0]; rfl, hw.below⟩)
        | (obtain rfl : j = 1 := by omega
           exact ⟨by rw [axis3_1]; rfl, hw.below⟩)
        | (obtain rfl : j = 2 := by omega
           exact ⟨by rw [axis3_2]; rfl, hw.below⟩)

theorem c_narN {w : World} {x : Nat} : New Try.prog 91 [.float .f64 x] w (fun v : {v : Nat // Nar x v} => .float .f32 v.1) (fun _ => []) := by
  refine New.enter Try.func91 rfl Try.ntmps91 (Nat.le_of_ble_eq_true rfl) ?_
  refine V.seq ?_
  refine V.region ?_
  refine VL.r (.inl rfl) rfl (by decide) (yr_assign (u := .float .f32 0) rfl rfl) ?_
  refine VL.nil ?_
  refine VE.then_wp ?_
  refine V.seq ?_
  refine V.region ?_
  refine VL.r (.inl rfl) rfl (by decide) (yr_move rfl rfl) ?_
  refine VL.new (.inl rfl) rfl (by decide) (yn_narrow rfl Try.underlying56 Try.underlying23 rfl) ?_
  rintro ⟨v9, hv9⟩
  refine VL.r (.inl rfl) rfl (by decide) (yr_assign rfl rfl) ?_
  refine VL.nil ?_
  refine VE.then_wp ?_
  refine V.ret ?_
  refine ret1 rfl rfl (fun w1 hw => ?_)
  exact ⟨⟨v9, hv9⟩, rfl, hw.below, (fun _ h => by cases h), List.Pairwise.nil⟩

theorem c_l06Unpack {w : World} {s : ByteArray} (hs : s.size ≤ 1048576) : New Try.prog 54 [.string s] w (fun x : {x : MX // x.is s} => .tuple #[x.1.v, .bool (unOk s)]) (fun x => [⟨x.1.ar, vl x.1.vs, x.1.cr * 3, 27⟩]) := by
  refine New.enter Try.func54 rfl Try.ntmps54 (Nat.le_of_ble_eq_true rfl) ?_
  have hb4 := sb_lt s 4
  have hb5 := sb_lt s 5
  have hb6 := sb_lt s 6
  have hm45 : sb s 4 * sb s 5 ≤ 65025 := Nat.le_trans (Nat.mul_le_mul (show sb s 4 ≤ 255 by omega) (show sb s 5 ≤ 255 by omega)) (by decide)
  have hm456 : unN s ≤ 16581375 := Nat.le_trans (Nat.mul_le_mul hm45 (show sb s 6 ≤ 255 by omega)) (by decide)
  refine V.seq ?_
  refine V.region ?_
  refine VL.new1 (.inl rfl) rfl (by decide) (yn_alloc rfl zero30_UnS rfl) ?_
  intro b2
  refine VL.r (.inl rfl) rfl (by decide) (yr_assign (u := .bool false) rfl rfl) ?_
  refine VL.nil ?_
  refine VE.then_wp ?_
  refine V.seq ?_
  refine V.seq ?_
  refine Dr.V.drawR [(0, 5), (1, 5), (2, 5), (3, 5), (4, 5), (5, 5), (6, 5), (7, 5), (8, 5), (9, 5), (10, 5), (11, 5), (12, 5), (13, 5), (14, 5), (15, 5), (16, 5), (17, 5), (18, 5), (19, 5), (20, 5)] [] [] _ mixed_UnS (by kernel_rfl) (fun w hw => hw) ?_
  refine Dr.SW.r rfl (.inl rfl) rfl (by decide) (yr_move rfl rfl) ?_
  refine Dr.SW.r rfl (.inl rfl) rfl (by decide) (yr_lenString rfl Try.underlying9 rfl) ?_
  refine Dr.SW.r rfl (.inl rfl) rfl (by decide) (yr_icmp rfl (.inr (.inr (.inl rfl))) rfl rfl) ?_
  refine Dr.SW.r rfl (.inl rfl) rfl (by decide) (yr_move rfl rfl) ?_
  refine Dr.SW.split Dr.lax_ve 18 _ rfl (fun h1 => ?_) (fun h1 => ?_)
  · skip
    replace h1 := ic_lss h1
    refine Dr.SW.no rfl (by decide) rfl rfl rfl rfl rfl (by decide) ?_
    refine Dr.SW.no rfl (by decide) rfl rfl rfl rfl rfl (by decide) ?_
    refine Dr.SW.no rfl (by decide) rfl rfl rfl rfl rfl (by decide) ?_
    refine Dr.SW.r rfl (.inl rfl) rfl (by decide) (yr_pick_t (u := .bool true) rfl rfl rfl) ?_
    refine Dr.SW.r rfl (.inl rfl) rfl (by decide) (yr_move rfl rfl) ?_
    refine Dr.SW.no rfl (by decide) rfl rfl rfl rfl rfl (by decide) ?_
    refine Dr.SW.no rfl (by decide) rfl rfl rfl rfl rfl (by decide) ?_
    refine Dr.SW.no rfl (by decide) rfl rfl rfl rfl rfl (by decide) ?_
    refine Dr.SW.no rfl (by decide) rfl rfl rfl rfl rfl (by decide) ?_
    refine Dr.SW.no rfl (by decide) rfl rfl rfl rfl rfl (by decide) ?_
    refine Dr.SW.no rfl (by decide) rfl rfl rfl rfl rfl (by decide) ?_
    refine Dr.SW.no rfl (by decide) rfl rfl rfl rfl rfl (by decide) ?_
    refine Dr.SW.no rfl (by decide) rfl rfl rfl rfl rfl (by decide) ?_
    refine Dr.SW.no rfl (by decide) rfl rfl rfl rfl rfl (by decide) ?_
    refine Dr.SW.no rfl (by decide) rfl rfl rfl rfl rfl (by decide) ?_
    refine Dr.SW.no rfl (by decide) rfl rfl rfl rfl rfl (by decide) ?_
    refine Dr.SW.r rfl (.inl rfl) rfl (by decide) (yr_pick_t (u := .bool true) rfl rfl rfl) ?_
    refine Dr.SW.done ?_
    refine Dr.eqO (by simp only [List.append_nil, List.append_assoc, List.cons_append, List.nil_append] <;> rfl) ?_
    refine VE.then_wp ?_
    refine V.condT rfl ?_
    refine V.seq ?_
    refine V.region ?_
    refine VL.r (.inl rfl) rfl (by decide) (yr_build rfl lay30_UnS rfl .nil (by first | (simp; done) | (simp [vv]; done) | (simp [cn, cn1, cn0]; done)) rfl) ?_
    refine VL.s (.inl rfl) rfl (yc_store rfl sz30_UnS rfl rfl (by repeat (first | exact UpdF.here | apply UpdF.there | apply UpdF.thereS)) (.inr ⟨rfl, rfl⟩) rfl (by first | exact Nat.le_of_ble_eq_true rfl | simp) (by decide) rfl) ?_
    rintro ⟨⟩
    refine VL.r (.inl rfl) rfl (by decide) (yr_assign (u := .bool false) rfl rfl) ?_
    refine VL.nil ?_
    refine VE.then_wp ?_
    refine V.ret ?_
    refine VE.then_ret ?_
    refine retN rfl (.cons (rv_cellS rfl Try.underlying30 sz30_UnS (by first | exact Sees.root (by assumption) | exact Sees.own (by repeat (first | exact List.mem_cons_self | exact List.mem_append_left _ (by assumption) | apply List.mem_cons_of_mem | apply List.mem_append_right)) | exact Sees.root (hR _ (by omega)) | exact Sees.own (RowsIn.mem (by repeat (first | exact RowsIn.here | exact RowsIn.last | apply RowsIn.there | apply RowsIn.thereS)) _ (by omega)) | exact Sees.own (WRowsIn.mem (by repeat (first | exact WRowsIn.here | exact WRowsIn.last | apply WRowsIn.there | apply WRowsIn.thereS)) _ (by omega))) rfl rfl rfl) (.cons (rv_tmp rfl (by nofun)) .nil)) (by nofun) (fun w1 hw => ?_)
    first
      | (have ho : unOk s = false := unOk_no (by first | exact unPre_no1 (by omega) | exact unPre_no2 (mk_no (by assumption)) | exact unPre_no4 (by omega) | exact unPre_no5 (by assumption))
         exact ⟨⟨MX.none, MX.none_is ho⟩, (by rw [ho]; rfl), hw.below, (by intro e he; rw [List.mem_singleton.1 he]; exact .inl ⟨rfl, rfl⟩), List.pairwise_singleton _ _⟩)
      | (have hsz : szOk (sb s 4 : Int) (sb s 5 : Int) (sb s 6 : Int) = false := by assumption
         have ho : unOk s = false := unOk_no (unPre_no5 (by unfold unMs; exact (meshOk_no3 hsz).symm))
         exact ⟨⟨MX.none, MX.none_is ho⟩, (by rw [ho]; rfl), hw.below, (by intro e he; rw [List.mem_singleton.1 he]; exact .inl ⟨rfl, rfl⟩), List.pairwise_singleton _ _⟩)
      | (obtain ⟨hj1, hj2, hj3⟩ := un_joinS hp9 hl9 (fun k hk => hH.2 k (by rw [hl9]; exact hk))
         first
         | (have ho : unOk s = false := hj1 (by assumption)
            refine ⟨⟨⟨unF s, unSt s, (sb s 4 : Int), (sb s 5 : Int), (sb s 6 : Int), ar1, cr1, vs⟩, fun h => by rw [ho] at h; cases h⟩, ?_, (hw.pick (by apply Pick.one; repeat (first | exact Rem.here | apply Rem.there))).out1⟩
            show _ = Value.tuple #[MX.v ⟨unF s, unSt s, (sb s 4 : Int), (sb s 5 : Int), (sb s 6 : Int), ar1, cr1, vs⟩, .bool (unOk s)]
            rw [ho]; rfl)
         | (have ha : allF vs (vs.length * 3) = true := by assumption
            rw [if_pos ha]
            cases hq9 : scmp .eql (unPk s vs) s with
            | true =>
              obtain ⟨ho, e⟩ := hj3 ha hq9
              refine ⟨⟨⟨unF s, unSt s, (sb s 4 : Int), (sb s 5 : Int), (sb s 6 : Int), ar1, cr1, vs⟩, fun h => ⟨rfl, rfl, rfl, rfl, rfl, e⟩⟩, ?_, (hw.pick (by apply Pick.one; repeat (first | exact Rem.here | apply Rem.there))).out1⟩
              show _ = Value.tuple #[MX.v ⟨unF s, unSt s, (sb s 4 : Int), (sb s 5 : Int), (sb s 6 : Int), ar1, cr1, vs⟩, .bool (unOk s)]
              rw [ho, ← hq9]; rfl
            | false =>
              have ho := hj2 ha hq9
              refine ⟨⟨⟨unF s, unSt s, (sb s 4 : Int), (sb s 5 : Int), (sb s 6 : Int), ar1, cr1, vs⟩, fun h => by rw [ho] at h; cases h⟩, ?_, (hw.pick (by apply Pick.one; repeat (first | exact Rem.here | apply Rem.there))).out1⟩
              show _ = Value.tuple #[MX.v ⟨unF s, unSt s, (sb s 4 : Int), (sb s 5 : Int), (sb s 6 : Int), ar1, cr1, vs⟩, .bool (unOk s)]
              rw [ho, ← hq9]; rfl))
  · skip
    replace h1 := ic_lss' h1
    refine Dr.SW.r rfl (.inr ⟨_, _, _, rfl, rfl, rfl⟩) rfl (by decide) (yr_move rfl rfl) ?_
    refine Dr.SW.r rfl (.inr ⟨_, _, _, rfl, rfl, rfl⟩) rfl (by decide) (yr_strPart (l := 0) (h := 4) rfl Try.underlying9 rfl OptI.no (OptI.at rfl rfl) (by omega) (by omega)) ?_
    refine Dr.SW.r rfl (.inr ⟨_, _, _, rfl, rfl, rfl⟩) rfl (by decide) (yr_scmp rfl rfl rfl (.inr rfl)) ?_
    refine Dr.SW.r rfl (.inl rfl) rfl (by decide) (yr_pick_f rfl rfl rfl) ?_
    refine Dr.SW.r rfl (.inl rfl) rfl (by decide) (yr_move rfl rfl) ?_
    refine Dr.SW.split Dr.lax_ve 23 _ rfl (fun h3 => ?_) (fun h3 => ?_)
    · skip
      refine Dr.SW.no rfl (by decide) rfl rfl rfl rfl rfl (by decide) ?_
      refine Dr.SW.no rfl (by decide) rfl rfl rfl rfl rfl (by decide) ?_
      refine Dr.SW.no rfl (by decide) rfl rfl rfl rfl rfl (by decide) ?_
      refine Dr.SW.no rfl (by decide) rfl rfl rfl rfl rfl (by decide) ?_
      refine Dr.SW.no rfl (by decide) rfl rfl rfl rfl rfl (by decide) ?_
      refine Dr.SW.no rfl (by decide) rfl rfl rfl rfl rfl (by decide) ?_
      refine Dr.SW.no rfl (by decide) rfl rfl rfl rfl rfl (by decide) ?_
      refine Dr.SW.no rfl (by decide) rfl rfl rfl rfl rfl (by decide) ?_
      refine Dr.SW.no rfl (by decide) rfl rfl rfl rfl rfl (by decide) ?_
      refine Dr.SW.no rfl (by decide) rfl rfl rfl rfl rfl (by decide) ?_
      refine Dr.SW.no rfl (by decide) rfl rfl rfl rfl rfl (by decide) ?_
      refine Dr.SW.r rfl (.inl rfl) rfl (by decide) (yr_pick_t (u := .bool true) rfl rfl rfl) ?_
      refine Dr.SW.done ?_
      refine Dr.eqO (by simp only [List.append_nil, List.append_assoc, List.cons_append, List.nil_append] <;> rfl) ?_
      refine VE.then_wp ?_
      refine V.condT rfl ?_
      refine V.seq ?_
      refine V.region ?_
      refine VL.r (.inl rfl) rfl (by decide) (yr_build rfl lay30_UnS rfl .nil (by first | (simp; done) | (simp [vv]; done) | (simp [cn, cn1, cn0]; done)) rfl) ?_
      refine VL.s (.inl rfl) rfl (yc_store rfl sz30_UnS rfl rfl (by repeat (first | exact UpdF.here | apply UpdF.there | apply UpdF.thereS)) (.inr ⟨rfl, rfl⟩) rfl (by first | exact Nat.le_of_ble_eq_true rfl | simp) (by decide) rfl) ?_
      rintro ⟨⟩
      refine VL.r (.inl rfl) rfl (by decide) (yr_assign (u := .bool false) rfl rfl) ?_
      refine VL.nil ?_
      refine VE.then_wp ?_
      refine V.ret ?_
      refine VE.then_ret ?_
      refine retN rfl (.cons (rv_cellS rfl Try.underlying30 sz30_UnS (by first | exact Sees.root (by assumption) | exact Sees.own (by repeat (first | exact List.mem_cons_self | exact List.mem_append_left _ (by assumption) | apply List.mem_cons_of_mem | apply List.mem_append_right)) | exact Sees.root (hR _ (by omega)) | exact Sees.own (RowsIn.mem (by repeat (first | exact RowsIn.here | exact RowsIn.last | apply RowsIn.there | apply RowsIn.thereS)) _ (by omega)) | exact Sees.own (WRowsIn.mem (by repeat (first | exact WRowsIn.here | exact WRowsIn.last | apply WRowsIn.there | apply WRowsIn.thereS)) _ (by omega))) rfl rfl rfl) (.cons (rv_tmp rfl (by nofun)) .nil)) (by nofun) (fun w1 hw => ?_)
      first
        | (have ho : unOk s = false := unOk_no (by first | exact unPre_no1 (by omega) | exact unPre_no2 (mk_no (by assumption)) | exact unPre_no4 (by omega) | exact unPre_no5 (by assumption))
           exact ⟨⟨MX.none, MX.none_is ho⟩, (by rw [ho]; rfl), hw.below, (by intro e he; rw [List.mem_singleton.1 he]; exact .inl ⟨rfl, rfl⟩), List.pairwise_singleton _ _⟩)
        | (have hsz : szOk (sb s 4 : Int) (sb s 5 : Int) (sb s 6 : Int) = false := by assumption
           have ho : unOk s = false := unOk_no (unPre_no5 (by unfold unMs; exact (meshOk_no3 hsz).symm))
           exact ⟨⟨MX.none, MX.none_is ho⟩, (by rw [ho]; rfl), hw.below, (by intro e he; rw [List.mem_singleton.1 he]; exact .inl ⟨rfl, rfl⟩), List.pairwise_singleton _ _⟩)
        | (obtain ⟨hj1, hj2, hj3⟩ := un_joinS hp9 hl9 (fun k hk => hH.2 k (by rw [hl9]; exact hk))
           first
           | (have ho : unOk s = false := hj1 (by assumption)
              refine ⟨⟨⟨unF s, unSt s, (sb s 4 : Int), (sb s 5 : Int), (sb s 6 : Int), ar1, cr1, vs⟩, fun h => by rw [ho] at h; cases h⟩, ?_, (hw.pick (by apply Pick.one; repeat (first | exact Rem.here | apply Rem.there))).out1⟩
              show _ = Value.tuple #[MX.v ⟨unF s, unSt s, (sb s 4 : Int), (sb s 5 : Int), (sb s 6 : Int), ar1, cr1, vs⟩, .bool (unOk s)]
              rw [ho]; rfl)
           | (have ha : allF vs (vs.length * 3) = true := by assumption
              rw [if_pos ha]
              cases hq9 : scmp .eql (unPk s vs) s with
              | true =>
                obtain ⟨ho, e⟩ := hj3 ha hq9
                refine ⟨⟨⟨unF s, unSt s, (sb s 4 : Int), (sb s 5 : Int), (sb s 6 : Int), ar1, cr1, vs⟩, fun h => ⟨rfl, rfl, rfl, rfl, rfl, e⟩⟩, ?_, (hw.pick (by apply Pick.one; repeat (first | exact Rem.here | apply Rem.there))).out1⟩
                show _ = Value.tuple #[MX.v ⟨unF s, unSt s, (sb s 4 : Int), (sb s 5 : Int), (sb s 6 : Int), ar1, cr1, vs⟩, .bool (unOk s)]
                rw [ho, ← hq9]; rfl
              | false =>
                have ho := hj2 ha hq9
                refine ⟨⟨⟨unF s, unSt s, (sb s 4 : Int), (sb s 5 : Int), (sb s 6 : Int), ar1, cr1, vs⟩, fun h => by rw [ho] at h; cases h⟩, ?_, (hw.pick (by apply Pick.one; repeat (first | exact Rem.here | apply Rem.there))).out1⟩
                show _ = Value.tuple #[MX.v ⟨unF s, unSt s, (sb s 4 : Int), (sb s 5 : Int), (sb s 6 : Int), ar1, cr1, vs⟩, .bool (unOk s)]
                rw [ho, ← hq9]; rfl))
    · skip
      refine Dr.SW.r rfl (.inr ⟨_, _, _, rfl, rfl, rfl⟩) rfl (by decide) (yr_move rfl rfl) ?_
      refine Dr.SW.r rfl (.inr ⟨_, _, _, rfl, rfl, rfl⟩) rfl (by decide) (yr_strByte (i := 4) rfl Try.underlying9 rfl rfl (by first | rfl | omega | (push_cast; rfl) | (push_cast; omega)) (by omega)) ?_
      refine Dr.SW.r rfl (.inr ⟨_, _, _, rfl, rfl, rfl⟩) rfl (by decide) (yr_intConv (r := (sb s 4 : Int)) rfl Try.underlying5 Try.underlying2 rfl (i64_nat (by omega))) ?_
      refine Dr.SW.r rfl (.inr ⟨_, _, _, rfl, rfl, rfl⟩) rfl (by decide) (yr_move rfl rfl) ?_
      refine Dr.SW.r rfl (.inr ⟨_, _, _, rfl, rfl, rfl⟩) rfl (by decide) (yr_strByte (i := 5) rfl Try.underlying9 rfl rfl (by first | rfl | omega | (push_cast; rfl) | (push_cast; omega)) (by omega)) ?_
      refine Dr.SW.r rfl (.inr ⟨_, _, _, rfl, rfl, rfl⟩) rfl (by decide) (yr_intConv (r := (sb s 5 : Int)) rfl Try.underlying5 Try.underlying2 rfl (i64_nat (by omega))) ?_
      refine Dr.SW.r rfl (.inr ⟨_, _, _, rfl, rfl, rfl⟩) rfl (by decide) (yr_move rfl rfl) ?_
      refine Dr.SW.r rfl (.inr ⟨_, _, _, rfl, rfl, rfl⟩) rfl (by decide) (yr_strByte (i := 6) rfl Try.underlying9 rfl rfl (by first | rfl | omega | (push_cast; rfl) | (push_cast; omega)) (by omega)) ?_
      refine Dr.SW.r rfl (.inr ⟨_, _, _, rfl, rfl, rfl⟩) rfl (by decide) (yr_intConv (r := (sb s 6 : Int)) rfl Try.underlying5 Try.underlying2 rfl (i64_nat (by omega))) ?_
      refine Dr.SW.p rfl (.inr ⟨_, _, _, rfl, rfl, rfl⟩) rfl (by decide) (yq_callf rfl known38_UnS (.cons rfl (.cons rfl (.cons rfl .nil))) (fun w hw => c_l06Sizes)) ?_
      refine Dr.SW.r rfl (.inr ⟨_, _, _, rfl, rfl, rfl⟩) rfl (by decide) (yr_not rfl rfl) ?_
      refine Dr.SW.r rfl (.inl rfl) rfl (by decide) (yr_pick_f rfl rfl rfl) ?_
      refine Dr.SW.done ?_
      refine Dr.eqO (by simp only [List.append_nil, List.append_assoc, List.cons_append, List.nil_append] <;> rfl) ?_
      refine VE.then_wp ?_
      refine V.cond rfl (fun h5 => ?_) (fun h5 => ?_)
      · skip
        replace h5 := bnot_t h5
        refine V.seq ?_
        refine V.region ?_
        refine VL.r (.inl rfl) rfl (by decide) (yr_build rfl lay30_UnS rfl .nil (by first | (simp; done) | (simp [vv]; done) | (simp [cn, cn1, cn0]; done)) rfl) ?_
        refine VL.s (.inl rfl) rfl (yc_store rfl sz30_UnS rfl rfl (by repeat (first | exact UpdF.here | apply UpdF.there | apply UpdF.thereS)) (.inr ⟨rfl, rfl⟩) rfl (by first | exact Nat.le_of_ble_eq_true rfl | simp) (by decide) rfl) ?_
        rintro ⟨⟩
        refine VL.r (.inl rfl) rfl (by decide) (yr_assign (u := .bool false) rfl rfl) ?_
        refine VL.nil ?_
        refine VE.then_wp ?_
        refine V.ret ?_
        refine VE.then_ret ?_
        refine retN rfl (.cons (rv_cellS rfl Try.underlying30 sz30_UnS (by first | exact Sees.root (by assumption) | exact Sees.own (by repeat (first | exact List.mem_cons_self | exact List.mem_append_left _ (by assumption) | apply List.mem_cons_of_mem | apply List.mem_append_right)) | exact Sees.root (hR _ (by omega)) | exact Sees.own (RowsIn.mem (by repeat (first | exact RowsIn.here | exact RowsIn.last | apply RowsIn.there | apply RowsIn.thereS)) _ (by omega)) | exact Sees.own (WRowsIn.mem (by repeat (first | exact WRowsIn.here | exact WRowsIn.last | apply WRowsIn.there | apply WRowsIn.thereS)) _ (by omega))) rfl rfl rfl) (.cons (rv_tmp rfl (by nofun)) .nil)) (by nofun) (fun w1 hw => ?_)
        first
          | (have ho : unOk s = false := unOk_no (by first | exact unPre_no1 (by omega) | exact unPre_no2 (mk_no (by assumption)) | exact unPre_no4 (by omega) | exact unPre_no5 (by assumption))
             exact ⟨⟨MX.none, MX.none_is ho⟩, (by rw [ho]; rfl), hw.below, (by intro e he; rw [List.mem_singleton.1 he]; exact .inl ⟨rfl, rfl⟩), List.pairwise_singleton _ _⟩)
          | (have hsz : szOk (sb s 4 : Int) (sb s 5 : Int) (sb s 6 : Int) = false := by assumption
             have ho : unOk s = false := unOk_no (unPre_no5 (by unfold unMs; exact (meshOk_no3 hsz).symm))
             exact ⟨⟨MX.none, MX.none_is ho⟩, (by rw [ho]; rfl), hw.below, (by intro e he; rw [List.mem_singleton.1 he]; exact .inl ⟨rfl, rfl⟩), List.pairwise_singleton _ _⟩)
          | (obtain ⟨hj1, hj2, hj3⟩ := un_joinS hp9 hl9 (fun k hk => hH.2 k (by rw [hl9]; exact hk))
             first
             | (have ho : unOk s = false := hj1 (by assumption)
                refine ⟨⟨⟨unF s, unSt s, (sb s 4 : Int), (sb s 5 : Int), (sb s 6 : Int), ar1, cr1, vs⟩, fun h => by rw [ho] at h; cases h⟩, ?_, (hw.pick (by apply Pick.one; repeat (first | exact Rem.here | apply Rem.there))).out1⟩
                show _ = Value.tuple #[MX.v ⟨unF s, unSt s, (sb s 4 : Int), (sb s 5 : Int), (sb s 6 : Int), ar1, cr1, vs⟩, .bool (unOk s)]
                rw [ho]; rfl)
             | (have ha : allF vs (vs.length * 3) = true := by assumption
                rw [if_pos ha]
                cases hq9 : scmp .eql (unPk s vs) s with
                | true =>
                  obtain ⟨ho, e⟩ := hj3 ha hq9
                  refine ⟨⟨⟨unF s, unSt s, (sb s 4 : Int), (sb s 5 : Int), (sb s 6 : Int), ar1, cr1, vs⟩, fun h => ⟨rfl, rfl, rfl, rfl, rfl, e⟩⟩, ?_, (hw.pick (by apply Pick.one; repeat (first | exact Rem.here | apply Rem.there))).out1⟩
                  show _ = Value.tuple #[MX.v ⟨unF s, unSt s, (sb s 4 : Int), (sb s 5 : Int), (sb s 6 : Int), ar1, cr1, vs⟩, .bool (unOk s)]
                  rw [ho, ← hq9]; rfl
                | false =>
                  have ho := hj2 ha hq9
                  refine ⟨⟨⟨unF s, unSt s, (sb s 4 : Int), (sb s 5 : Int), (sb s 6 : Int), ar1, cr1, vs⟩, fun h => by rw [ho] at h; cases h⟩, ?_, (hw.pick (by apply Pick.one; repeat (first | exact Rem.here | apply Rem.there))).out1⟩
                  show _ = Value.tuple #[MX.v ⟨unF s, unSt s, (sb s 4 : Int), (sb s 5 : Int), (sb s 6 : Int), ar1, cr1, vs⟩, .bool (unOk s)]
                  rw [ho, ← hq9]; rfl))
      · skip
        replace h5 := bnot_f h5
        have hmk := mk_yes (s := s) (by assumption)
        have hsz : szOk (sb s 4 : Int) (sb s 5 : Int) (sb s 6 : Int) = true := by assumption
        have hN : unN s ≤ 216 := by
          obtain ⟨W, H, D, e1, e2, e3, q1, q2, q3, q4, q5, q6, hbd⟩ := szOk_is hsz
          have e1' := Int.ofNat.inj e1
          have e2' := Int.ofNat.inj e2
          have e3' := Int.ofNat.inj e3
          subst e1'; subst e2'; subst e3'
          exact hbd
        refine V.skip ?_
        refine VE.then_wp ?_
        refine V.seq ?_
        refine V.draw [(0, 0), (1, 0), (2, 0), (3, 0), (4, 0), (5, 0), (6, 0), (7, 0), (8, 0), (9, 1), (10, 0), (11, 2), (12, 3)] mixed_UnS (by kernel_rfl) (by intro j o hj ho; simp only [List.mem_cons, List.mem_nil_iff, Prod.mk.injEq, or_false, false_or, reduceCtorEq, and_false, and_true, Nat.reduceEqDiff] at hj; subst hj; cases ho; exact ⟨rfl, ⟨_, _, rfl, by first | exact zero30_UnS⟩, _, rfl, by decide⟩) ?_
        refine SW.r rfl (.inl rfl) rfl (by decide) (yr_move rfl rfl) ?_
        refine SW.r rfl (.inl rfl) rfl (by decide) (yr_strByte (i := 4) rfl Try.underlying9 rfl rfl (by first | rfl | omega | (push_cast; rfl) | (push_cast; omega)) (by omega)) ?_
        refine SW.r rfl (.inl rfl) rfl (by decide) (yr_intConv (r := (sb s 4 : Int)) rfl Try.underlying5 Try.underlying2 rfl (i64_nat (by omega))) ?_
        refine SW.r rfl (.inl rfl) rfl (by decide) (yr_move rfl rfl) ?_
        refine SW.r rfl (.inl rfl) rfl (by decide) (yr_strByte (i := 5) rfl Try.underlying9 rfl rfl (by first | rfl | omega | (push_cast; rfl) | (push_cast; omega)) (by omega)) ?_
        refine SW.r rfl (.inl rfl) rfl (by decide) (yr_intConv (r := (sb s 5 : Int)) rfl Try.underlying5 Try.underlying2 rfl (i64_nat (by omega))) ?_
        refine SW.r rfl (.inl rfl) rfl (by decide) (yr_move rfl rfl) ?_
        refine SW.r rfl (.inl rfl) rfl (by decide) (yr_strByte (i := 6) rfl Try.underlying9 rfl rfl (by first | rfl | omega | (push_cast; rfl) | (push_cast; omega)) (by omega)) ?_
        refine SW.r rfl (.inl rfl) rfl (by decide) (yr_intConv (r := (sb s 6 : Int)) rfl Try.underlying5 Try.underlying2 rfl (i64_nat (by omega))) ?_
        refine SW.new1 rfl (.inl rfl) rfl (by decide) (yn_buildSlice rfl Try.underlying28 elt27_UnS rfl (by decide) .nil (by simp) rfl rfl) ?_
        intro b46
        refine SW.r rfl (.inl rfl) rfl (by decide) (yr_build rfl lay30_UnS rfl (.cons rfl (.cons rfl (.cons rfl (.cons rfl .nil)))) (by first | (simp; done) | (simp [vv]; done) | (simp [cn, cn1, cn0]; done)) rfl) ?_
        refine SW.a rfl rfl rfl zero30_UnS rfl rfl (by decide) ?_
        intro b4
        refine SW.s rfl (.inl rfl) rfl (yc_store rfl sz30_UnS rfl rfl (by repeat (first | exact UpdF.here | apply UpdF.there | apply UpdF.thereS)) (.inr ⟨rfl, rfl⟩) rfl (by first | exact Nat.le_of_ble_eq_true rfl | simp) (by decide) rfl) ?_
        rintro ⟨⟩
        refine SW.done ?_
        refine VE.then_wp ?_
        refine V.seq ?_
        refine V.region ?_
        refine VL.r (.inl rfl) rfl (by decide) (yr_move rfl rfl) ?_
        refine VL.q (.inl rfl) rfl (by decide) (yq_callf rfl known90_UnS (.cons rfl (.cons rfl .nil)) (fun w hw => (c_l06Num (p := 7) (by omega) (by omega)))) ?_
        refine VL.r (.inl rfl) rfl (by decide) (yr_move rfl rfl) ?_
        refine VL.q (.inl rfl) rfl (by decide) (yq_callf rfl known90_UnS (.cons rfl (.cons rfl .nil)) (fun w hw => (c_l06Num (p := 11) (by omega) (by omega)))) ?_
        refine VL.r (.inl rfl) rfl (by decide) (yr_move rfl rfl) ?_
        refine VL.q (.inl rfl) rfl (by decide) (yq_callf rfl known90_UnS (.cons rfl (.cons rfl .nil)) (fun w hw => (c_l06Num (p := 15) (by omega) (by omega)))) ?_
        refine VL.r (.inl rfl) rfl (by decide) (yr_build rfl lay27_UnS rfl (.cons rfl (.cons rfl (.cons rfl .nil))) (by first | (simp; done) | (simp [vv]; done) | (simp [cn, cn1, cn0]; done)) rfl) ?_
        refine VL.r (.inl rfl) rfl (by decide) (yr_fieldAddr rfl Try.underlying30 rfl rfl sz27_UnS (by decide) rfl) ?_
        refine VL.s (.inl rfl) rfl (yc_store rfl sz27_UnS rfl rfl (by repeat (first | exact UpdF.here | apply UpdF.there | apply UpdF.thereS)) (.inr ⟨rfl, rfl⟩) rfl (by first | exact Nat.le_of_ble_eq_true rfl | simp) (by decide) rfl) ?_
        rintro ⟨⟩
        refine VL.nil ?_
        refine VE.then_wp ?_
        refine V.seq ?_
        refine V.region ?_
        refine VL.r (.inl rfl) rfl (by decide) (yr_move rfl rfl) ?_
        refine VL.q (.inl rfl) rfl (by decide) (yq_callf rfl known90_UnS (.cons rfl (.cons rfl .nil)) (fun w hw => (c_l06Num (p := 19) (by omega) (by omega)))) ?_
        refine VL.r (.inl rfl) rfl (by decide) (yr_fieldAddr rfl Try.underlying30 rfl rfl sz23_UnS (by decide) rfl) ?_
        refine VL.s (.inl rfl) rfl (yc_store rfl sz23_UnS rfl rfl (by repeat (first | exact UpdF.here | apply UpdF.there | apply UpdF.thereS)) (.inl ⟨rfl, rfl⟩) rfl (by first | exact Nat.le_of_ble_eq_true rfl | simp) (by decide) rfl) ?_
        rintro ⟨⟩
        refine VL.nil ?_
        refine VE.then_wp ?_
        refine V.seq ?_
        refine V.region ?_
        refine VL.r (.inl rfl) rfl (by decide) (yr_move rfl rfl) ?_
        refine VL.q (.inl rfl) rfl (by decide) (yq_callf rfl known90_UnS (.cons rfl (.cons rfl .nil)) (fun w hw => (c_l06Num (p := 23) (by omega) (by omega)))) ?_
        refine VL.r (.inl rfl) rfl (by decide) (yr_assign rfl rfl) ?_
        refine VL.nil ?_
        refine VE.then_wp ?_
        refine V.seq ?_
        refine V.region ?_
        refine VL.r (.inl rfl) rfl (by decide) (yr_fieldAddr rfl Try.underlying30 rfl rfl sz2_UnS (by decide) rfl) ?_
        refine VL.q (.inl rfl) rfl (by decide) (yq_load rfl fb2_UnS rfl (by first | exact Sees.root (by assumption) | exact Sees.own (by repeat (first | exact List.mem_cons_self | exact List.mem_append_left _ (by assumption) | apply List.mem_cons_of_mem | apply List.mem_append_right)) | exact Sees.root (hR _ (by omega)) | exact Sees.own (RowsIn.mem (by repeat (first | exact RowsIn.here | exact RowsIn.last | apply RowsIn.there | apply RowsIn.thereS)) _ (by omega)) | exact Sees.own (WRowsIn.mem (by repeat (first | exact WRowsIn.here | exact WRowsIn.last | apply WRowsIn.there | apply WRowsIn.thereS)) _ (by omega))) rfl) ?_
        refine VL.r (.inl rfl) rfl (by decide) (yr_fieldAddr rfl Try.underlying30 rfl rfl sz2_UnS (by decide) rfl) ?_
        refine VL.q (.inl rfl) rfl (by decide) (yq_load rfl fb2_UnS rfl (by first | exact Sees.root (by assumption) | exact Sees.own (by repeat (first | exact List.mem_cons_self | exact List.mem_append_left _ (by assumption) | apply List.mem_cons_of_mem | apply List.mem_append_right)) | exact Sees.root (hR _ (by omega)) | exact Sees.own (RowsIn.mem (by repeat (first | exact RowsIn.here | exact RowsIn.last | apply RowsIn.there | apply RowsIn.thereS)) _ (by omega)) | exact Sees.own (WRowsIn.mem (by repeat (first | exact WRowsIn.here | exact WRowsIn.last | apply WRowsIn.there | apply WRowsIn.thereS)) _ (by omega))) rfl) ?_
        refine VL.r (.inl rfl) rfl (by decide) (yr_mulN (sb s 4) (sb s 5) rfl rfl rfl (by omega) (by omega) (Nat.le_trans (mul_small (by omega) (by omega)) (by decide))) ?_
        refine VL.r (.inl rfl) rfl (by decide) (yr_fieldAddr rfl Try.underlying30 rfl rfl sz2_UnS (by decide) rfl) ?_
        refine VL.q (.inl rfl) rfl (by decide) (yq_load rfl fb2_UnS rfl (by first | exact Sees.root (by assumption) | exact Sees.own (by repeat (first | exact List.mem_cons_self | exact List.mem_append_left _ (by assumption) | apply List.mem_cons_of_mem | apply List.mem_append_right)) | exact Sees.root (hR _ (by omega)) | exact Sees.own (RowsIn.mem (by repeat (first | exact RowsIn.here | exact RowsIn.last | apply RowsIn.there | apply RowsIn.thereS)) _ (by omega)) | exact Sees.own (WRowsIn.mem (by repeat (first | exact WRowsIn.here | exact WRowsIn.last | apply WRowsIn.there | apply WRowsIn.thereS)) _ (by omega))) rfl) ?_
        refine VL.r (.inl rfl) rfl (by decide) (show YR _ _ _ (.int .i64 ((unN s : Nat) : Int)) from yr_mulN (sb s 4 * sb s 5) (sb s 6) rfl rfl rfl rfl rfl (Nat.le_trans (mul_small (by omega) (by omega)) (by decide))) ?_
        refine VL.r (.inl rfl) rfl (by decide) (yr_assign rfl rfl) ?_
        refine VL.nil ?_
        refine VE.then_wp ?_
        refine V.seq ?_
        refine V.seq ?_
        refine V.region ?_
        refine VL.r (.inl rfl) rfl (by decide) (yr_move rfl rfl) ?_
        refine VL.r (.inl rfl) rfl (by decide) (yr_lenString rfl Try.underlying9 rfl) ?_
        refine VL.r (.inl rfl) rfl (by decide) (yr_move rfl rfl) ?_
        refine VL.r (.inl rfl) rfl (by decide) (yr_mulN 6 (unN s) rfl rfl rfl (by omega) (by omega) (Nat.le_trans (mul_small (by omega) (by omega)) (by decide))) ?_
        refine VL.r (.inl rfl) rfl (by decide) (yr_int rfl rfl rfl (.inl ⟨rfl, wrap_in (by omega)⟩)) ?_
        refine VL.r (.inl rfl) rfl (by decide) (yr_icmp rfl (.inr (.inl rfl)) rfl rfl) ?_
        refine VL.nil ?_
        refine VE.then_wp ?_
        refine V.cond rfl (fun h6 => ?_) (fun h6 => ?_)
        · skip
          replace h6 := ic_neq h6
          refine V.seq ?_
          refine V.region ?_
          refine VL.r (.inl rfl) rfl (by decide) (yr_build rfl lay30_UnS rfl .nil (by first | (simp; done) | (simp [vv]; done) | (simp [cn, cn1, cn0]; done)) rfl) ?_
          refine VL.s (.inl rfl) rfl (yc_store rfl sz30_UnS rfl rfl (by repeat (first | exact UpdF.here | apply UpdF.there | apply UpdF.thereS)) (.inr ⟨rfl, rfl⟩) rfl (by first | exact Nat.le_of_ble_eq_true rfl | simp) (by decide) rfl) ?_
          rintro ⟨⟩
          refine VL.r (.inl rfl) rfl (by decide) (yr_assign (u := .bool false) rfl rfl) ?_
          refine VL.nil ?_
          refine VE.then_wp ?_
          refine V.ret ?_
          refine VE.then_ret ?_
          refine retN rfl (.cons (rv_cellS rfl Try.underlying30 sz30_UnS (by first | exact Sees.root (by assumption) | exact Sees.own (by repeat (first | exact List.mem_cons_self | exact List.mem_append_left _ (by assumption) | apply List.mem_cons_of_mem | apply List.mem_append_right)) | exact Sees.root (hR _ (by omega)) | exact Sees.own (RowsIn.mem (by repeat (first | exact RowsIn.here | exact RowsIn.last | apply RowsIn.there | apply RowsIn.thereS)) _ (by omega)) | exact Sees.own (WRowsIn.mem (by repeat (first | exact WRowsIn.here | exact WRowsIn.last | apply WRowsIn.there | apply WRowsIn.thereS)) _ (by omega))) rfl rfl rfl) (.cons (rv_tmp rfl (by nofun)) .nil)) (by nofun) (fun w1 hw => ?_)
          first
            | (have ho : unOk s = false := unOk_no (by first | exact unPre_no1 (by omega) | exact unPre_no2 (mk_no (by assumption)) | exact unPre_no4 (by omega) | exact unPre_no5 (by assumption))
               exact ⟨⟨MX.none, MX.none_is ho⟩, (by rw [ho]; rfl), hw.below, (by intro e he; rw [List.mem_singleton.1 he]; exact .inl ⟨rfl, rfl⟩), List.pairwise_singleton _ _⟩)
            | (have hsz : szOk (sb s 4 : Int) (sb s 5 : Int) (sb s 6 : Int) = false := by assumption
               have ho : unOk s = false := unOk_no (unPre_no5 (by unfold unMs; exact (meshOk_no3 hsz).symm))
               exact ⟨⟨MX.none, MX.none_is ho⟩, (by rw [ho]; rfl), hw.below, (by intro e he; rw [List.mem_singleton.1 he]; exact .inl ⟨rfl, rfl⟩), List.pairwise_singleton _ _⟩)
            | (obtain ⟨hj1, hj2, hj3⟩ := un_joinS hp9 hl9 (fun k hk => hH.2 k (by rw [hl9]; exact hk))
               first
               | (have ho : unOk s = false := hj1 (by assumption)
                  refine ⟨⟨⟨unF s, unSt s, (sb s 4 : Int), (sb s 5 : Int), (sb s 6 : Int), ar1, cr1, vs⟩, fun h => by rw [ho] at h; cases h⟩, ?_, (hw.pick (by apply Pick.one; repeat (first | exact Rem.here | apply Rem.there))).out1⟩
                  show _ = Value.tuple #[MX.v ⟨unF s, unSt s, (sb s 4 : Int), (sb s 5 : Int), (sb s 6 : Int), ar1, cr1, vs⟩, .bool (unOk s)]
                  rw [ho]; rfl)
               | (have ha : allF vs (vs.length * 3) = true := by assumption
                  rw [if_pos ha]
                  cases hq9 : scmp .eql (unPk s vs) s with
                  | true =>
                    obtain ⟨ho, e⟩ := hj3 ha hq9
                    refine ⟨⟨⟨unF s, unSt s, (sb s 4 : Int), (sb s 5 : Int), (sb s 6 : Int), ar1, cr1, vs⟩, fun h => ⟨rfl, rfl, rfl, rfl, rfl, e⟩⟩, ?_, (hw.pick (by apply Pick.one; repeat (first | exact Rem.here | apply Rem.there))).out1⟩
                    show _ = Value.tuple #[MX.v ⟨unF s, unSt s, (sb s 4 : Int), (sb s 5 : Int), (sb s 6 : Int), ar1, cr1, vs⟩, .bool (unOk s)]
                    rw [ho, ← hq9]; rfl
                  | false =>
                    have ho := hj2 ha hq9
                    refine ⟨⟨⟨unF s, unSt s, (sb s 4 : Int), (sb s 5 : Int), (sb s 6 : Int), ar1, cr1, vs⟩, fun h => by rw [ho] at h; cases h⟩, ?_, (hw.pick (by apply Pick.one; repeat (first | exact Rem.here | apply Rem.there))).out1⟩
                    show _ = Value.tuple #[MX.v ⟨unF s, unSt s, (sb s 4 : Int), (sb s 5 : Int), (sb s 6 : Int), ar1, cr1, vs⟩, .bool (unOk s)]
                    rw [ho, ← hq9]; rfl))
        · skip
          replace h6 := ic_neq' h6
          refine V.skip ?_
          refine VE.then_wp ?_
          refine V.seq ?_
          refine V.seq ?_
          refine V.region ?_
          refine VL.r (.inl rfl) rfl (by decide) (yr_assign (u := .int .i64 0) rfl rfl) ?_
          refine VL.nil ?_
          refine VE.then_wp ?_
          refine V.block ?_
          refine V.loopc (G := (List V3) × (Option Addr) × Nat) [(0, _), (2, _), (4, _), (5, _), (6, _)] (fun ⟨vs, ar1, cr1⟩ => vs.length ≤ unN s ∧ unHS s vs) (fun ⟨vs, ar1, cr1⟩ => [⟨some ⟨b4, 0, none⟩, [.float .f32 (cb .f32 (rd4 s 7)), .float .f32 (cb .f32 (rd4 s 11)), .float .f32 (cb .f32 (rd4 s 15)), .float .f32 (cb .f32 (rd4 s 19)), .int .i64 (sb s 4 : Int), .int .i64 (sb s 5 : Int), .int .i64 (sb s 6 : Int), .slice ar1 vs.length cr1], 8, 30⟩, ⟨ar1, vl vs, cr1 * 3, 27⟩, ⟨some ⟨b2, 0, none⟩, [.float .f32 0, .float .f32 0, .float .f32 0, .float .f32 0, .int .i64 0, .int .i64 0, .int .i64 0, .slice none 0 0], 8, 30⟩]) (fun ⟨vs, ar1, cr1⟩ => [(7, .int .i64 (vs.length : Int))]) (fun ⟨vs, ar1, cr1⟩ => unN s - vs.length) ([], some ⟨b46, 0, none⟩, 0) (.cons rfl (.cons rfl (.cons rfl (.cons rfl (.cons rfl .nil))))) (.cons rfl .nil) ?_ ?_ ?_
          · exact (fun w hw => hw.pick (by apply Pick.p3; all_goals (repeat (first | exact Rem.here | apply Rem.there))))
          · exact (by exact ⟨Nat.zero_le _, unHS_0⟩)
          rintro ⟨vs, ar1, cr1⟩ ⟨hl, hH⟩
          show V _ _ _ [⟨some ⟨b4, 0, none⟩, [.float .f32 (cb .f32 (rd4 s 7)), .float .f32 (cb .f32 (rd4 s 11)), .float .f32 (cb .f32 (rd4 s 15)), .float .f32 (cb .f32 (rd4 s 19)), .int .i64 (sb s 4 : Int), .int .i64 (sb s 5 : Int), .int .i64 (sb s 6 : Int), .slice ar1 vs.length cr1], 8, 30⟩, ⟨ar1, vl vs, cr1 * 3, 27⟩, ⟨some ⟨b2, 0, none⟩, [.float .f32 0, .float .f32 0, .float .f32 0, .float .f32 0, .int .i64 0, .int .i64 0, .int .i64 0, .slice none 0 0], 8, 30⟩] ([(7, .int .i64 (vs.length : Int))] ++ [(0, _), (2, _), (4, _), (5, _), (6, _)]) _ _
          refine V.seq ?_
          refine V.seq ?_
          refine V.region ?_
          refine VL.r (.inl rfl) rfl (by decide) (yr_move rfl rfl) ?_
          refine VL.r (.inl rfl) rfl (by decide) (yr_move rfl rfl) ?_
          refine VL.r (.inl rfl) rfl (by decide) (yr_icmp rfl (.inr (.inr (.inl rfl))) rfl rfl) ?_
          refine VL.nil ?_
          refine VE.then_wp ?_
          refine V.cond rfl (fun h7 => ?_) (fun h7 => ?_)
          · skip
            replace h7 := ic_lss h7
            refine V.skip ?_
            refine VE.then_wp ?_
            refine V.seq ?_
            refine V.block ?_
            refine V.seq ?_
            refine V.region ?_
            refine VL.r (.inl rfl) rfl (by decide) (yr_build rfl lay27_UnS rfl .nil (by first | (simp; done) | (simp [vv]; done) | (simp [cn, cn1, cn0]; done)) rfl) ?_
            refine VL.new1 (.inl rfl) rfl (by decide) (yn_alloc rfl zero27_UnS rfl) ?_
            intro b8
            refine VL.s (.inl rfl) rfl (yc_store rfl sz27_UnS rfl rfl (by repeat (first | exact UpdF.here | apply UpdF.there | apply UpdF.thereS)) (.inr ⟨rfl, rfl⟩) rfl (by first | exact Nat.le_of_ble_eq_true rfl | simp) (by decide) rfl) ?_
            rintro ⟨⟩
            refine VL.nil ?_
            refine VE.then_wp ?_
            refine V.seq ?_
            refine V.seq ?_
            refine V.region ?_
            refine VL.r (.inl rfl) rfl (by decide) (yr_assign (u := .int .i64 0) rfl rfl) ?_
            refine VL.nil ?_
            refine VE.then_wp ?_
            refine V.block ?_
            refine V.loopc (G := Nat × V3) [(0, _), (2, _), (4, _), (5, _), (6, _), (7, _), (8, _)] (fun ⟨j, v⟩ => j ≤ 3 ∧ unA s vs.length v j) (fun ⟨j, v⟩ => [⟨some ⟨b8, 0, none⟩, [.float .f32 (v).1, .float .f32 (v).2.1, .float .f32 (v).2.2], 3, 27⟩, ⟨some ⟨b4, 0, none⟩, [.float .f32 (cb .f32 (rd4 s 7)), .float .f32 (cb .f32 (rd4 s 11)), .float .f32 (cb .f32 (rd4 s 15)), .float .f32 (cb .f32 (rd4 s 19)), .int .i64 (sb s 4 : Int), .int .i64 (sb s 5 : Int), .int .i64 (sb s 6 : Int), .slice ar1 vs.length cr1], 8, 30⟩, ⟨ar1, vl vs, cr1 * 3, 27⟩, ⟨some ⟨b2, 0, none⟩, [.float .f32 0, .float .f32 0, .float .f32 0, .float .f32 0, .int .i64 0, .int .i64 0, .int .i64 0, .slice none 0 0], 8, 30⟩]) (fun ⟨j, v⟩ => [(9, .int .i64 (j : Int))]) (fun ⟨j, v⟩ => 3 - j) (0, z3) (.cons rfl (.cons rfl (.cons rfl (.cons rfl (.cons rfl (.cons rfl (.cons rfl .nil))))))) (.cons rfl .nil) ?_ ?_ ?_
            · exact (fun w hw => hw)
            · exact (by exact ⟨Nat.zero_le _, unA_0⟩)
            rintro ⟨j, v⟩ ⟨hj, hA⟩
            show V _ _ _ [⟨some ⟨b8, 0, none⟩, [.float .f32 (v).1, .float .f32 (v).2.1, .float .f32 (v).2.2], 3, 27⟩, ⟨some ⟨b4, 0, none⟩, [.float .f32 (cb .f32 (rd4 s 7)), .float .f32 (cb .f32 (rd4 s 11)), .float .f32 (cb .f32 (rd4 s 15)), .float .f32 (cb .f32 (rd4 s 19)), .int .i64 (sb s 4 : Int), .int .i64 (sb s 5 : Int), .int .i64 (sb s 6 : Int), .slice ar1 vs.length cr1], 8, 30⟩, ⟨ar1, vl vs, cr1 * 3, 27⟩, ⟨some ⟨b2, 0, none⟩, [.float .f32 0, .float .f32 0, .float .f32 0, .float .f32 0, .int .i64 0, .int .i64 0, .int .i64 0, .slice none 0 0], 8, 30⟩] ([(9, .int .i64 (j : Int))] ++ [(0, _), (2, _), (4, _), (5, _), (6, _), (7, _), (8, _)]) _ _
            refine V.seq ?_
            refine V.seq ?_
            refine V.region ?_
            refine VL.r (.inl rfl) rfl (by decide) (yr_move rfl rfl) ?_
            refine VL.r (.inl rfl) rfl (by decide) (yr_icmp rfl (.inr (.inr (.inl rfl))) rfl rfl) ?_
            refine VL.nil ?_
            refine VE.then_wp ?_
            refine V.cond rfl (fun h8 => ?_) (fun h8 => ?_)
            · skip
              replace h8 := ic_lss h8
              have hb7 := sb_lt s (27 + 6 * vs.length + 2 * j)
              have hb8 := sb_lt s (27 + 6 * vs.length + 2 * j + 1)
              have hr2 := rd2_lt s (27 + 6 * vs.length + 2 * j)
              refine V.skip ?_
              refine VE.then_wp ?_
              refine V.seq ?_
              refine V.block ?_
              refine V.seq ?_
              refine V.region ?_
              refine VL.r (.inl rfl) rfl (by decide) (yr_move rfl rfl) ?_
              refine VL.r (.inl rfl) rfl (by decide) (yr_mulN 6 vs.length rfl rfl rfl (by omega) (by omega) (Nat.le_trans (mul_small (by omega) (by omega)) (by decide))) ?_
              refine VL.r (.inl rfl) rfl (by decide) (yr_int rfl rfl rfl (.inl ⟨rfl, wrap_in (by omega)⟩)) ?_
              refine VL.r (.inl rfl) rfl (by decide) (yr_move rfl rfl) ?_
              refine VL.r (.inl rfl) rfl (by decide) (yr_mulN 2 j rfl rfl rfl (by omega) (by omega) (Nat.le_trans (mul_small (by omega) (by omega)) (by decide))) ?_
              refine VL.r (.inl rfl) rfl (by decide) (yr_int rfl rfl rfl (.inl ⟨rfl, wrap_in (by omega)⟩)) ?_
              refine VL.r (.inl rfl) rfl (by decide) (yr_assign rfl rfl) ?_
              refine VL.nil ?_
              refine VE.then_wp ?_
              refine V.seq ?_
              refine V.draw [(0, 0), (1, 0), (2, 0), (3, 0), (4, 0), (5, 0), (6, 0), (7, 0), (8, 0), (9, 0), (10, 0), (11, 0)] mixed_UnS (by kernel_rfl) (by intro j o hj; simp at hj) ?_
              refine SW.r rfl (.inl rfl) rfl (by decide) (yr_move rfl rfl) ?_
              refine SW.r rfl (.inl rfl) rfl (by decide) (yr_move rfl rfl) ?_
              refine SW.r rfl (.inl rfl) rfl (by decide) (yr_strByte (i := ((27 + (6 * vs.length)) + (2 * j))) rfl Try.underlying9 rfl rfl (by first | rfl | omega | (push_cast; rfl) | (push_cast; omega)) (by omega)) ?_
              refine SW.r rfl (.inl rfl) rfl (by decide) (yr_intConv (r := (sb s (27 + 6 * vs.length + 2 * j) : Int)) rfl Try.underlying5 Try.underlying2 rfl (i64_nat (by omega))) ?_
              refine SW.r rfl (.inl rfl) rfl (by decide) (yr_move rfl rfl) ?_
              refine SW.r rfl (.inl rfl) rfl (by decide) (yr_move rfl rfl) ?_
              refine SW.r rfl (.inl rfl) rfl (by decide) (yr_int rfl rfl rfl (.inl ⟨rfl, wrap_in (by omega)⟩)) ?_
              refine SW.r rfl (.inl rfl) rfl (by decide) (yr_strByte (i := (((27 + (6 * vs.length)) + (2 * j)) + 1)) rfl Try.underlying9 rfl rfl (by first | rfl | omega | (push_cast; rfl) | (push_cast; omega)) (by omega)) ?_
              refine SW.r rfl (.inl rfl) rfl (by decide) (yr_intConv (r := (sb s (27 + 6 * vs.length + 2 * j + 1) : Int)) rfl Try.underlying5 Try.underlying2 rfl (i64_nat (by omega))) ?_
              refine SW.r rfl (.inl rfl) rfl (by decide) (yr_shl (b := 8) (r := ((sb s (27 + 6 * vs.length + 2 * j + 1) * 2 ^ 8 : Nat) : Int)) rfl rfl rfl (shl_64 (by decide) (by omega))) ?_
              refine SW.r rfl (.inl rfl) rfl (by decide) (yr_bits (r := ((rd2 s (27 + 6 * vs.length + 2 * j) : Nat) : Int)) rfl rfl rfl (.inr ⟨rfl, or_64 (n := 8) (by omega) (by unfold rd2; omega) (by omega)⟩)) ?_
              refine SW.r rfl (.inl rfl) rfl (by decide) (yr_assign rfl rfl) ?_
              refine SW.done ?_
              refine VE.then_wp ?_
              refine V.seq ?_
              refine V.seq ?_
              refine V.region ?_
              refine VL.r (.inl rfl) rfl (by decide) (yr_move rfl rfl) ?_
              refine VL.r (.inl rfl) rfl (by decide) (yr_icmp rfl (.inr (.inr (.inr (.inr (.inl rfl))))) rfl rfl) ?_
              refine VL.nil ?_
              refine VE.then_wp ?_
              refine V.cond rfl (fun h9 => ?_) (fun h9 => ?_)
              · skip
                replace h9 := ic_gtr h9
                refine V.region ?_
                refine VL.r (.inl rfl) rfl (by decide) (yr_move rfl rfl) ?_
                refine VL.r (.inl rfl) rfl (by decide) (yr_int rfl rfl rfl (.inr (.inl ⟨rfl, wrap_in (by omega)⟩))) ?_
                refine VL.r (.inl rfl) rfl (by decide) (yr_assign rfl rfl) ?_
                refine VL.nil ?_
                refine VE.then_wp ?_
                refine V.seq ?_
                refine V.region ?_
                refine VL.r (.inl rfl) rfl (by decide) (yr_move rfl rfl) ?_
                refine VL.r (.inl rfl) rfl (by decide) (yr_fconv rfl Try.underlying23 Try.underlying56 (by decide) rfl (fover_up _)) ?_
                refine VL.r (.inl rfl) rfl (by decide) (yr_move rfl rfl) ?_
                refine VL.r (.inl rfl) rfl (by decide) (yr_ofInt rfl Try.underlying2 Try.underlying56 rfl) ?_
                refine VL.r (.inl rfl) rfl (by decide) (yr_float (b := 4674736138332667904) rfl (.inr (.inr (.inr rfl))) rfl rfl) ?_
                refine VL.r (.inl rfl) rfl (by decide) (yr_float rfl (.inr (.inr (.inl rfl))) rfl rfl) ?_
                refine VL.new (.inl rfl) rfl (by decide) (yn_callf rfl known91_UnS (.cons rfl .nil) (fun w hw => c_narN)) ?_
                rintro ⟨v113, hv113⟩
                refine VL.r (.inl rfl) rfl (by decide) (yr_assign rfl rfl) ?_
                refine VL.nil ?_
                refine VE.then_wp ?_
                refine V.draw [(0, 0), (1, 0), (2, 0), (3, 0), (4, 0), (5, 3)] mixed_UnS (by kernel_rfl) (by intro j o hj; simp at hj) ?_
                refine SW.q rfl (.inl rfl) rfl (by decide) (yq_loadS rfl Try.underlying27 sz27_UnS rfl (by first | exact Sees.root (by assumption) | exact Sees.own (by repeat (first | exact List.mem_cons_self | exact List.mem_append_left _ (by assumption) | apply List.mem_cons_of_mem | apply List.mem_append_right)) | exact Sees.root (hR _ (by omega)) | exact Sees.own (RowsIn.mem (by repeat (first | exact RowsIn.here | exact RowsIn.last | apply RowsIn.there | apply RowsIn.thereS)) _ (by omega)) | exact Sees.own (WRowsIn.mem (by repeat (first | exact WRowsIn.here | exact WRowsIn.last | apply WRowsIn.there | apply WRowsIn.thereS)) _ (by omega))) rfl rfl rfl) ?_
                refine SW.r rfl (.inl rfl) rfl (by decide) (yr_move rfl rfl) ?_
                refine SW.r rfl (.inl rfl) rfl (by decide) (yr_move rfl rfl) ?_
                refine SW.q rfl (.inl rfl) rfl (by decide) (yq_callf rfl known92_UnS (.cons rfl (.cons rfl .nil)) (fun w hw => (c_axis (j := j) (by omega)))) ?_
                refine SW.q rfl (.inl rfl) rfl (by decide) (yq_callf rfl known82_UnS (.cons rfl (.cons rfl .nil)) (fun w hw => c_add3S)) ?_
                refine SW.s rfl (.inl rfl) rfl (yc_store rfl sz27_UnS rfl rfl (by repeat (first | exact UpdF.here | apply UpdF.there | apply UpdF.thereS)) (.inr ⟨rfl, rfl⟩) rfl (by first | exact Nat.le_of_ble_eq_true rfl | simp) (by decide) rfl) ?_
                rintro ⟨⟩
                refine SW.done ?_
                refine VE.block_normal ?_
                refine VE.then_wp ?_
                refine V.region ?_
                refine VL.r (.inl rfl) rfl (by decide) (yr_move rfl rfl) ?_
                refine VL.r (.inl rfl) rfl (by decide) (yr_int rfl rfl rfl (.inl ⟨rfl, wrap_in (by omega)⟩)) ?_
                refine VL.r (.inl rfl) rfl (by decide) (yr_assign rfl rfl) ?_
                refine VL.nil ?_
                refine VE.round (j + 1, add3 v (axis3 j v113)) ?_ ?_ ?_ ?_ ?_
                · exact (.cons rfl .nil)
                · exact (.cons rfl (.cons rfl (.cons rfl (.cons rfl (.cons rfl (.cons rfl (.cons rfl .nil)))))))
                · exact (fun w hw => hw)
                · have hv7 : Nar (unX (cb .f32 (rd4 s 23)) (q16 (rd2 s (27 + 6 * vs.length + 2 * j)))) v113 := by
                    first
                    | (rw [q16_hi (by omega)]; unfold unX; exact hv113)
                    | (rw [q16_lo (by omega)]; unfold unX; exact hv113)
                  exact ⟨by omega, unA_s hA (by omega) hv7 (by omega)⟩
                · (try dsimp only); omega
              · skip
                replace h9 := ic_gtr' h9
                refine V.skip ?_
                refine VE.then_wp ?_
                refine V.seq ?_
                refine V.region ?_
                refine VL.r (.inl rfl) rfl (by decide) (yr_move rfl rfl) ?_
                refine VL.r (.inl rfl) rfl (by decide) (yr_fconv rfl Try.underlying23 Try.underlying56 (by decide) rfl (fover_up _)) ?_
                refine VL.r (.inl rfl) rfl (by decide) (yr_move rfl rfl) ?_
                refine VL.r (.inl rfl) rfl (by decide) (yr_ofInt rfl Try.underlying2 Try.underlying56 rfl) ?_
                refine VL.r (.inl rfl) rfl (by decide) (yr_float (b := 4674736138332667904) rfl (.inr (.inr (.inr rfl))) rfl rfl) ?_
                refine VL.r (.inl rfl) rfl (by decide) (yr_float rfl (.inr (.inr (.inl rfl))) rfl rfl) ?_
                refine VL.new (.inl rfl) rfl (by decide) (yn_callf rfl known91_UnS (.cons rfl .nil) (fun w hw => c_narN)) ?_
                rintro ⟨v113, hv113⟩
                refine VL.r (.inl rfl) rfl (by decide) (yr_assign rfl rfl) ?_
                refine VL.nil ?_
                refine VE.then_wp ?_
                refine V.draw [(0, 0), (1, 0), (2, 0), (3, 0), (4, 0), (5, 3)] mixed_UnS (by kernel_rfl) (by intro j o hj; simp at hj) ?_
                refine SW.q rfl (.inl rfl) rfl (by decide) (yq_loadS rfl Try.underlying27 sz27_UnS rfl (by first | exact Sees.root (by assumption) | exact Sees.own (by repeat (first | exact List.mem_cons_self | exact List.mem_append_left _ (by assumption) | apply List.mem_cons_of_mem | apply List.mem_append_right)) | exact Sees.root (hR _ (by omega)) | exact Sees.own (RowsIn.mem (by repeat (first | exact RowsIn.here | exact RowsIn.last | apply RowsIn.there | apply RowsIn.thereS)) _ (by omega)) | exact Sees.own (WRowsIn.mem (by repeat (first | exact WRowsIn.here | exact WRowsIn.last | apply WRowsIn.there | apply WRowsIn.thereS)) _ (by omega))) rfl rfl rfl) ?_
                refine SW.r rfl (.inl rfl) rfl (by decide) (yr_move rfl rfl) ?_
                refine SW.r rfl (.inl rfl) rfl (by decide) (yr_move rfl rfl) ?_
                refine SW.q rfl (.inl rfl) rfl (by decide) (yq_callf rfl known92_UnS (.cons rfl (.cons rfl .nil)) (fun w hw => (c_axis (j := j) (by omega)))) ?_
                refine SW.q rfl (.inl rfl) rfl (by decide) (yq_callf rfl known82_UnS (.cons rfl (.cons rfl .nil)) (fun w hw => c_add3S)) ?_
                refine SW.s rfl (.inl rfl) rfl (yc_store rfl sz27_UnS rfl rfl (by repeat (first | exact UpdF.here | apply UpdF.there | apply UpdF.thereS)) (.inr ⟨rfl, rfl⟩) rfl (by first | exact Nat.le_of_ble_eq_true rfl | simp) (by decide) rfl) ?_
                rintro ⟨⟩
                refine SW.done ?_
                refine VE.block_normal ?_
                refine VE.then_wp ?_
                refine V.region ?_
                refine VL.r (.inl rfl) rfl (by decide) (yr_move rfl rfl) ?_
                refine VL.r (.inl rfl) rfl (by decide) (yr_int rfl rfl rfl (.inl ⟨rfl, wrap_in (by omega)⟩)) ?_
                refine VL.r (.inl rfl) rfl (by decide) (yr_assign rfl rfl) ?_
                refine VL.nil ?_
                refine VE.round (j + 1, add3 v (axis3 j v113)) ?_ ?_ ?_ ?_ ?_
                · exact (.cons rfl .nil)
                · exact (.cons rfl (.cons rfl (.cons rfl (.cons rfl (.cons rfl (.cons rfl (.cons rfl .nil)))))))
                · exact (fun w hw => hw)
                · have hv7 : Nar (unX (cb .f32 (rd4 s 23)) (q16 (rd2 s (27 + 6 * vs.length + 2 * j)))) v113 := by
                    first
                    | (rw [q16_hi (by omega)]; unfold unX; exact hv113)
                    | (rw [q16_lo (by omega)]; unfold unX; exact hv113)
                  exact ⟨by omega, unA_s hA (by omega) hv7 (by omega)⟩
                · (try dsimp only); omega
            · skip
              replace h8 := ic_lss' h8
              refine V.exit ?_
              refine VE.then_exit ?_
              refine VE.then_exit ?_
              refine VE.block_here ?_
              refine VE.then_wp ?_
              refine V.region ?_
              refine VL.r (.inl rfl) rfl (by decide) (yr_fieldAddr rfl Try.underlying30 rfl rfl sz28_UnS (by decide) rfl) ?_
              refine VL.q (.inl rfl) rfl (by decide) (yq_load rfl fb28_UnS rfl (by first | exact Sees.root (by assumption) | exact Sees.own (by repeat (first | exact List.mem_cons_self | exact List.mem_append_left _ (by assumption) | apply List.mem_cons_of_mem | apply List.mem_append_right)) | exact Sees.root (hR _ (by omega)) | exact Sees.own (RowsIn.mem (by repeat (first | exact RowsIn.here | exact RowsIn.last | apply RowsIn.there | apply RowsIn.thereS)) _ (by omega)) | exact Sees.own (WRowsIn.mem (by repeat (first | exact WRowsIn.here | exact WRowsIn.last | apply WRowsIn.there | apply WRowsIn.thereS)) _ (by omega))) rfl) ?_
              refine VL.q (.inl rfl) rfl (by decide) (yq_loadS rfl Try.underlying27 sz27_UnS rfl (by first | exact Sees.root (by assumption) | exact Sees.own (by repeat (first | exact List.mem_cons_self | exact List.mem_append_left _ (by assumption) | apply List.mem_cons_of_mem | apply List.mem_append_right)) | exact Sees.root (hR _ (by omega)) | exact Sees.own (RowsIn.mem (by repeat (first | exact RowsIn.here | exact RowsIn.last | apply RowsIn.there | apply RowsIn.thereS)) _ (by omega)) | exact Sees.own (WRowsIn.mem (by repeat (first | exact WRowsIn.here | exact WRowsIn.last | apply WRowsIn.there | apply WRowsIn.thereS)) _ (by omega))) rfl rfl rfl) ?_
              refine VL.new1 (.inl rfl) rfl (by decide) (yn_buildSlice rfl Try.underlying28 elt27_UnS rfl (by decide) (.cons rfl .nil) (by simp) rfl rfl) ?_
              intro b122
              refine VL.c (.inl rfl) rfl (by decide) (yc_appendz 3 rfl rfl Try.underlying28 elt27_UnS rfl rfl (by repeat (first | exact UpdF.here | apply UpdF.there | apply UpdF.thereS)) (by first | exact Sees.root (by assumption) | exact Sees.own (by repeat (first | exact List.mem_cons_self | exact List.mem_append_left _ (by assumption) | apply List.mem_cons_of_mem | apply List.mem_append_right)) | exact Sees.root (hR _ (by omega)) | exact Sees.own (RowsIn.mem (by repeat (first | exact RowsIn.here | exact RowsIn.last | apply RowsIn.there | apply RowsIn.thereS)) _ (by omega)) | exact Sees.own (WRowsIn.mem (by repeat (first | exact WRowsIn.here | exact WRowsIn.last | apply WRowsIn.there | apply WRowsIn.thereS)) _ (by omega))) rfl (by rw [vl_length]) rfl (vl_scal _) rfl (by omega) (by omega)) ?_
              rintro ⟨a123, c123⟩
              refine VL.r (.inl rfl) rfl (by decide) (yr_fieldAddr rfl Try.underlying30 rfl rfl sz28_UnS (by decide) rfl) ?_
              refine VL.s (.inl rfl) rfl (yc_store rfl sz28_UnS rfl rfl (by repeat (first | exact UpdF.here | apply UpdF.there | apply UpdF.thereS)) (.inl ⟨rfl, rfl⟩) rfl (by first | exact Nat.le_of_ble_eq_true rfl | simp) (by decide) rfl) ?_
              rintro ⟨⟩
              refine VL.nil ?_
              refine VE.block_normal ?_
              refine VE.then_wp ?_
              refine V.region ?_
              refine VL.r (.inl rfl) rfl (by decide) (yr_move rfl rfl) ?_
              refine VL.r (.inl rfl) rfl (by decide) (yr_int rfl rfl rfl (.inl ⟨rfl, wrap_in (by omega)⟩)) ?_
              refine VL.r (.inl rfl) rfl (by decide) (yr_assign rfl rfl) ?_
              refine VL.nil ?_
              refine VE.round (vs ++ [v], a123, c123) ?_ ?_ ?_ ?_ ?_
              · exact (.cons (congrArg (fun i => some (Value.int .i64 i)) (by rw [List.length_append]; rfl)) .nil)
              · exact (.cons rfl (.cons rfl (.cons rfl (.cons rfl (.cons rfl .nil)))))
              · exact (fun w hw => by dsimp only; rw [← vl_snoc, List.length_append]; exact hw.pick (by apply Pick.p3; all_goals (repeat (first | exact Rem.here | apply Rem.there))))
              · (obtain rfl : j = 3 := by omega)
                exact ⟨by rw [List.length_append]; show vs.length + 1 ≤ unN s; omega, unHS_s hH hA⟩
              · dsimp only; rw [List.length_append]; show unN s - (vs.length + 1) < unN s - vs.length; omega
          · skip
            replace h7 := ic_lss' h7
            have hl9 : vs.length = unN s := by omega
            refine V.exit ?_
            refine VE.then_exit ?_
            refine VE.then_exit ?_
            refine VE.block_here ?_
            refine VE.then_wp ?_
            refine V.seq ?_
            refine V.seq ?_
            refine V.region ?_
            refine VL.q (.inl rfl) rfl (by decide) (yq_callf rfl known68_UnS (.cons rfl .nil) (fun w hw => (c_l06Is (by first | exact Sees.root (by assumption) w hw | exact Sees.own (by repeat (first | exact List.mem_cons_self | exact List.mem_append_left _ (by assumption) | apply List.mem_cons_of_mem | apply List.mem_append_right)) w hw)))) ?_
            refine VL.r (.inl rfl) rfl (by decide) (yr_not rfl rfl) ?_
            refine VL.nil ?_
            refine VE.then_wp ?_
            refine V.cond rfl (fun h10 => ?_) (fun h10 => ?_)
            · skip
              replace h10 := bnot_t h10
              have hms : unMs s = false := by unfold unMs; rw [← hl9]; exact h10
              refine V.seq ?_
              refine V.region ?_
              refine VL.r (.inl rfl) rfl (by decide) (yr_build rfl lay30_UnS rfl .nil (by first | (simp; done) | (simp [vv]; done) | (simp [cn, cn1, cn0]; done)) rfl) ?_
              refine VL.s (.inl rfl) rfl (yc_store rfl sz30_UnS rfl rfl (by repeat (first | exact UpdF.here | apply UpdF.there | apply UpdF.thereS)) (.inr ⟨rfl, rfl⟩) rfl (by first | exact Nat.le_of_ble_eq_true rfl | simp) (by decide) rfl) ?_
              rintro ⟨⟩
              refine VL.r (.inl rfl) rfl (by decide) (yr_assign (u := .bool false) rfl rfl) ?_
              refine VL.nil ?_
              refine VE.then_wp ?_
              refine V.ret ?_
              refine VE.then_ret ?_
              refine retN rfl (.cons (rv_cellS rfl Try.underlying30 sz30_UnS (by first | exact Sees.root (by assumption) | exact Sees.own (by repeat (first | exact List.mem_cons_self | exact List.mem_append_left _ (by assumption) | apply List.mem_cons_of_mem | apply List.mem_append_right)) | exact Sees.root (hR _ (by omega)) | exact Sees.own (RowsIn.mem (by repeat (first | exact RowsIn.here | exact RowsIn.last | apply RowsIn.there | apply RowsIn.thereS)) _ (by omega)) | exact Sees.own (WRowsIn.mem (by repeat (first | exact WRowsIn.here | exact WRowsIn.last | apply WRowsIn.there | apply WRowsIn.thereS)) _ (by omega))) rfl rfl rfl) (.cons (rv_tmp rfl (by nofun)) .nil)) (by nofun) (fun w1 hw => ?_)
              first
                | (have ho : unOk s = false := unOk_no (by first | exact unPre_no1 (by omega) | exact unPre_no2 (mk_no (by assumption)) | exact unPre_no4 (by omega) | exact unPre_no5 (by assumption))
                   exact ⟨⟨MX.none, MX.none_is ho⟩, (by rw [ho]; rfl), hw.below, (by intro e he; rw [List.mem_singleton.1 he]; exact .inl ⟨rfl, rfl⟩), List.pairwise_singleton _ _⟩)
                | (have hsz : szOk (sb s 4 : Int) (sb s 5 : Int) (sb s 6 : Int) = false := by assumption
                   have ho : unOk s = false := unOk_no (unPre_no5 (by unfold unMs; exact (meshOk_no3 hsz).symm))
                   exact ⟨⟨MX.none, MX.none_is ho⟩, (by rw [ho]; rfl), hw.below, (by intro e he; rw [List.mem_singleton.1 he]; exact .inl ⟨rfl, rfl⟩), List.pairwise_singleton _ _⟩)
                | (obtain ⟨hj1, hj2, hj3⟩ := un_joinS hp9 hl9 (fun k hk => hH.2 k (by rw [hl9]; exact hk))
                   first
                   | (have ho : unOk s = false := hj1 (by assumption)
                      refine ⟨⟨⟨unF s, unSt s, (sb s 4 : Int), (sb s 5 : Int), (sb s 6 : Int), ar1, cr1, vs⟩, fun h => by rw [ho] at h; cases h⟩, ?_, (hw.pick (by apply Pick.one; repeat (first | exact Rem.here | apply Rem.there))).out1⟩
                      show _ = Value.tuple #[MX.v ⟨unF s, unSt s, (sb s 4 : Int), (sb s 5 : Int), (sb s 6 : Int), ar1, cr1, vs⟩, .bool (unOk s)]
                      rw [ho]; rfl)
                   | (have ha : allF vs (vs.length * 3) = true := by assumption
                      rw [if_pos ha]
                      cases hq9 : scmp .eql (unPk s vs) s with
                      | true =>
                        obtain ⟨ho, e⟩ := hj3 ha hq9
                        refine ⟨⟨⟨unF s, unSt s, (sb s 4 : Int), (sb s 5 : Int), (sb s 6 : Int), ar1, cr1, vs⟩, fun h => ⟨rfl, rfl, rfl, rfl, rfl, e⟩⟩, ?_, (hw.pick (by apply Pick.one; repeat (first | exact Rem.here | apply Rem.there))).out1⟩
                        show _ = Value.tuple #[MX.v ⟨unF s, unSt s, (sb s 4 : Int), (sb s 5 : Int), (sb s 6 : Int), ar1, cr1, vs⟩, .bool (unOk s)]
                        rw [ho, ← hq9]; rfl
                      | false =>
                        have ho := hj2 ha hq9
                        refine ⟨⟨⟨unF s, unSt s, (sb s 4 : Int), (sb s 5 : Int), (sb s 6 : Int), ar1, cr1, vs⟩, fun h => by rw [ho] at h; cases h⟩, ?_, (hw.pick (by apply Pick.one; repeat (first | exact Rem.here | apply Rem.there))).out1⟩
                        show _ = Value.tuple #[MX.v ⟨unF s, unSt s, (sb s 4 : Int), (sb s 5 : Int), (sb s 6 : Int), ar1, cr1, vs⟩, .bool (unOk s)]
                        rw [ho, ← hq9]; rfl))
            · skip
              replace h10 := bnot_f h10
              have hms : unMs s = true := by unfold unMs; rw [← hl9]; exact h10
              have hp9 : unPre s = true := unPre_yes (by omega) hmk (by omega) (by omega) hms
              refine V.skip ?_
              refine VE.then_wp ?_
              refine V.seq ?_
              refine V.region ?_
              refine VL.q (.inl rfl) rfl (by decide) (yq_callf rfl known93_UnS (.cons rfl .nil) (fun w hw => (c_specPack (by first | exact Sees.root (by assumption) w hw | exact Sees.own (by repeat (first | exact List.mem_cons_self | exact List.mem_append_left _ (by assumption) | apply List.mem_cons_of_mem | apply List.mem_append_right)) w hw) (by first | exact Sees.root (by assumption) w hw | exact Sees.own (by repeat (first | exact List.mem_cons_self | exact List.mem_append_left _ (by assumption) | apply List.mem_cons_of_mem | apply List.mem_append_right)) w hw) hH.1 can_unF can_unSt (by omega)))) ?_
              refine VL.r (.inl rfl) rfl (by decide) (yr_move rfl rfl) ?_
              refine VL.r (.inl rfl) rfl (by decide) (yr_extract rfl rfl rfl (by nofun)) ?_
              refine VL.r (.inl rfl) rfl (by decide) (yr_extract rfl rfl rfl (by nofun)) ?_
              refine VL.r (.inl rfl) rfl (by decide) (yr_assign rfl rfl) ?_
              refine VL.r (.inl rfl) rfl (by decide) (yr_assign rfl rfl) ?_
              refine VL.nil ?_
              refine VE.then_wp ?_
              refine V.seq ?_
              refine V.region ?_
              refine VL.q (.inl rfl) rfl (by decide) (yq_loadS rfl Try.underlying30 sz30_UnS rfl (by first | exact Sees.root (by assumption) | exact Sees.own (by repeat (first | exact List.mem_cons_self | exact List.mem_append_left _ (by assumption) | apply List.mem_cons_of_mem | apply List.mem_append_right)) | exact Sees.root (hR _ (by omega)) | exact Sees.own (RowsIn.mem (by repeat (first | exact RowsIn.here | exact RowsIn.last | apply RowsIn.there | apply RowsIn.thereS)) _ (by omega)) | exact Sees.own (WRowsIn.mem (by repeat (first | exact WRowsIn.here | exact WRowsIn.last | apply WRowsIn.there | apply WRowsIn.thereS)) _ (by omega))) rfl rfl rfl) ?_
              refine VL.r (.inl rfl) rfl (by decide) (yr_move rfl rfl) ?_
              refine VL.r (.inl rfl) rfl (by decide) (yr_move rfl rfl) ?_
              refine VX.split 134 _ rfl (fun h11 => ?_) (fun h11 => ?_)
              · skip
                refine VL.r (.inr ⟨_, _, _, rfl, rfl, rfl⟩) rfl (by decide) (yr_move rfl rfl) ?_
                refine VL.r (.inr ⟨_, _, _, rfl, rfl, rfl⟩) rfl (by decide) (yr_move rfl rfl) ?_
                refine VL.r (.inr ⟨_, _, _, rfl, rfl, rfl⟩) rfl (by decide) (yr_scmp rfl rfl rfl (.inl rfl)) ?_
                refine VL.r (.inl rfl) rfl (by decide) (yr_pick_t rfl rfl rfl) ?_
                refine VL.s (.inl rfl) rfl (yc_store rfl sz30_UnS rfl rfl (by repeat (first | exact UpdF.here | apply UpdF.there | apply UpdF.thereS)) (.inr ⟨rfl, rfl⟩) rfl (by first | exact Nat.le_of_ble_eq_true rfl | simp) (by decide) rfl) ?_
                rintro ⟨⟩
                refine VL.r (.inl rfl) rfl (by decide) (yr_assign rfl rfl) ?_
                refine VL.nil ?_
                refine VE.then_wp ?_
                refine V.ret ?_
                refine retN rfl (.cons (rv_cellS rfl Try.underlying30 sz30_UnS (by first | exact Sees.root (by assumption) | exact Sees.own (by repeat (first | exact List.mem_cons_self | exact List.mem_append_left _ (by assumption) | apply List.mem_cons_of_mem | apply List.mem_append_right)) | exact Sees.root (hR _ (by omega)) | exact Sees.own (RowsIn.mem (by repeat (first | exact RowsIn.here | exact RowsIn.last | apply RowsIn.there | apply RowsIn.thereS)) _ (by omega)) | exact Sees.own (WRowsIn.mem (by repeat (first | exact WRowsIn.here | exact WRowsIn.last | apply WRowsIn.there | apply WRowsIn.thereS)) _ (by omega))) rfl rfl rfl) (.cons (rv_tmp rfl (by nofun)) .nil)) (by nofun) (fun w1 hw => ?_)
                first
                  | (have ho : unOk s = false := unOk_no (by first | exact unPre_no1 (by omega) | exact unPre_no2 (mk_no (by assumption)) | exact unPre_no4 (by omega) | exact unPre_no5 (by assumption))
                     exact ⟨⟨MX.none, MX.none_is ho⟩, (by rw [ho]; rfl), hw.below, (by intro e he; rw [List.mem_singleton.1 he]; exact .inl ⟨rfl, rfl⟩), List.pairwise_singleton _ _⟩)
                  | (have hsz : szOk (sb s 4 : Int) (sb s 5 : Int) (sb s 6 : Int) = false := by assumption
                     have ho : unOk s = false := unOk_no (unPre_no5 (by unfold unMs; exact (meshOk_no3 hsz).symm))
                     exact ⟨⟨MX.none, MX.none_is ho⟩, (by rw [ho]; rfl), hw.below, (by intro e he; rw [List.mem_singleton.1 he]; exact .inl ⟨rfl, rfl⟩), List.pairwise_singleton _ _⟩)
                  | (obtain ⟨hj1, hj2, hj3⟩ := un_joinS hp9 hl9 (fun k hk => hH.2 k (by rw [hl9]; exact hk))
                     first
                     | (have ho : unOk s = false := hj1 (by assumption)
                        refine ⟨⟨⟨unF s, unSt s, (sb s 4 : Int), (sb s 5 : Int), (sb s 6 : Int), ar1, cr1, vs⟩, fun h => by rw [ho] at h; cases h⟩, ?_, (hw.pick (by apply Pick.one; repeat (first | exact Rem.here | apply Rem.there))).out1⟩
                        show _ = Value.tuple #[MX.v ⟨unF s, unSt s, (sb s 4 : Int), (sb s 5 : Int), (sb s 6 : Int), ar1, cr1, vs⟩, .bool (unOk s)]
                        rw [ho]; rfl)
                     | (have ha : allF vs (vs.length * 3) = true := by assumption
                        rw [if_pos ha]
                        cases hq9 : scmp .eql (unPk s vs) s with
                        | true =>
                          obtain ⟨ho, e⟩ := hj3 ha hq9
                          refine ⟨⟨⟨unF s, unSt s, (sb s 4 : Int), (sb s 5 : Int), (sb s 6 : Int), ar1, cr1, vs⟩, fun h => ⟨rfl, rfl, rfl, rfl, rfl, e⟩⟩, ?_, (hw.pick (by apply Pick.one; repeat (first | exact Rem.here | apply Rem.there))).out1⟩
                          show _ = Value.tuple #[MX.v ⟨unF s, unSt s, (sb s 4 : Int), (sb s 5 : Int), (sb s 6 : Int), ar1, cr1, vs⟩, .bool (unOk s)]
                          rw [ho, ← hq9]; rfl
                        | false =>
                          have ho := hj2 ha hq9
                          refine ⟨⟨⟨unF s, unSt s, (sb s 4 : Int), (sb s 5 : Int), (sb s 6 : Int), ar1, cr1, vs⟩, fun h => by rw [ho] at h; cases h⟩, ?_, (hw.pick (by apply Pick.one; repeat (first | exact Rem.here | apply Rem.there))).out1⟩
                          show _ = Value.tuple #[MX.v ⟨unF s, unSt s, (sb s 4 : Int), (sb s 5 : Int), (sb s 6 : Int), ar1, cr1, vs⟩, .bool (unOk s)]
                          rw [ho, ← hq9]; rfl))
              · skip
                refine VL.no rfl rfl rfl rfl rfl (by decide) ?_
                refine VL.no rfl rfl rfl rfl rfl (by decide) ?_
                refine VL.no rfl rfl rfl rfl rfl (by decide) ?_
                refine VL.r (.inl rfl) rfl (by decide) (yr_pick_f (u := .bool false) rfl rfl rfl) ?_
                refine VL.s (.inl rfl) rfl (yc_store rfl sz30_UnS rfl rfl (by repeat (first | exact UpdF.here | apply UpdF.there | apply UpdF.thereS)) (.inr ⟨rfl, rfl⟩) rfl (by first | exact Nat.le_of_ble_eq_true rfl | simp) (by decide) rfl) ?_
                rintro ⟨⟩
                refine VL.r (.inl rfl) rfl (by decide) (yr_assign rfl rfl) ?_
                refine VL.nil ?_
                refine VE.then_wp ?_
                refine V.ret ?_
                refine retN rfl (.cons (rv_cellS rfl Try.underlying30 sz30_UnS (by first | exact Sees.root (by assumption) | exact Sees.own (by repeat (first | exact List.mem_cons_self | exact List.mem_append_left _ (by assumption) | apply List.mem_cons_of_mem | apply List.mem_append_right)) | exact Sees.root (hR _ (by omega)) | exact Sees.own (RowsIn.mem (by repeat (first | exact RowsIn.here | exact RowsIn.last | apply RowsIn.there | apply RowsIn.thereS)) _ (by omega)) | exact Sees.own (WRowsIn.mem (by repeat (first | exact WRowsIn.here | exact WRowsIn.last | apply WRowsIn.there | apply WRowsIn.thereS)) _ (by omega))) rfl rfl rfl) (.cons (rv_tmp rfl (by nofun)) .nil)) (by nofun) (fun w1 hw => ?_)
                first
                  | (have ho : unOk s = false := unOk_no (by first | exact unPre_no1 (by omega) | exact unPre_no2 (mk_no (by assumption)) | exact unPre_no4 (by omega) | exact unPre_no5 (by assumption))
                     exact ⟨⟨MX.none, MX.none_is ho⟩, (by rw [ho]; rfl), hw.below, (by intro e he; rw [List.mem_singleton.1 he]; exact .inl ⟨rfl, rfl⟩), List.pairwise_singleton _ _⟩)
                  | (have hsz : szOk (sb s 4 : Int) (sb s 5 : Int) (sb s 6 : Int) = false := by assumption
                     have ho : unOk s = false := unOk_no (unPre_no5 (by unfold unMs; exact (meshOk_no3 hsz).symm))
                     exact ⟨⟨MX.none, MX.none_is ho⟩, (by rw [ho]; rfl), hw.below, (by intro e he; rw [List.mem_singleton.1 he]; exact .inl ⟨rfl, rfl⟩), List.pairwise_singleton _ _⟩)
                  | (obtain ⟨hj1, hj2, hj3⟩ := un_joinS hp9 hl9 (fun k hk => hH.2 k (by rw [hl9]; exact hk))
                     first
                     | (have ho : unOk s = false := hj1 (by assumption)
                        refine ⟨⟨⟨unF s, unSt s, (sb s 4 : Int), (sb s 5 : Int), (sb s 6 : Int), ar1, cr1, vs⟩, fun h => by rw [ho] at h; cases h⟩, ?_, (hw.pick (by apply Pick.one; repeat (first | exact Rem.here | apply Rem.there))).out1⟩
                        show _ = Value.tuple #[MX.v ⟨unF s, unSt s, (sb s 4 : Int), (sb s 5 : Int), (sb s 6 : Int), ar1, cr1, vs⟩, .bool (unOk s)]
                        rw [ho]; rfl)
                     | (have ha : allF vs (vs.length * 3) = true := by assumption
                        rw [if_pos ha]
                        cases hq9 : scmp .eql (unPk s vs) s with
                        | true =>
                          obtain ⟨ho, e⟩ := hj3 ha hq9
                          refine ⟨⟨⟨unF s, unSt s, (sb s 4 : Int), (sb s 5 : Int), (sb s 6 : Int), ar1, cr1, vs⟩, fun h => ⟨rfl, rfl, rfl, rfl, rfl, e⟩⟩, ?_, (hw.pick (by apply Pick.one; repeat (first | exact Rem.here | apply Rem.there))).out1⟩
                          show _ = Value.tuple #[MX.v ⟨unF s, unSt s, (sb s 4 : Int), (sb s 5 : Int), (sb s 6 : Int), ar1, cr1, vs⟩, .bool (unOk s)]
                          rw [ho, ← hq9]; rfl
                        | false =>
                          have ho := hj2 ha hq9
                          refine ⟨⟨⟨unF s, unSt s, (sb s 4 : Int), (sb s 5 : Int), (sb s 6 : Int), ar1, cr1, vs⟩, fun h => by rw [ho] at h; cases h⟩, ?_, (hw.pick (by apply Pick.one; repeat (first | exact Rem.here | apply Rem.there))).out1⟩
                          show _ = Value.tuple #[MX.v ⟨unF s, unSt s, (sb s 4 : Int), (sb s 5 : Int), (sb s 6 : Int), ar1, cr1, vs⟩, .bool (unOk s)]
                          rw [ho, ← hq9]; rfl))

theorem c_specUn {w : World} {s : ByteArray} (hs : s.size ≤ 1048576) : New Try.prog 18 [.string s] w (fun p : Option Addr × Nat => unRes s p) (fun p => [⟨p.1, vl (unR s), p.2 * 3, 27⟩]) := by
  refine New.enter Try.func18 rfl Try.ntmps18 (Nat.le_of_ble_eq_true rfl) ?_
  refine V.seq ?_
  refine V.region ?_
  refine VL.new1 (.inl rfl) rfl (by decide) (yn_alloc rfl zero30_UnS rfl) ?_
  intro b2
  refine VL.r (.inl rfl) rfl (by decide) (yr_assign (u := .bool false) rfl rfl) ?_
  refine VL.nil ?_
  refine VE.then_wp ?_
  refine V.seq ?_
  refine V.region ?_
  refine VL.r (.inl rfl) rfl (by decide) (yr_move rfl rfl) ?_
  refine VL.new1 (.inl rfl) rfl (by decide) (yn_callf rfl known54_UnS (.cons rfl .nil) (fun w hw => (c_l06Unpack (by assumption)))) ?_
  rintro ⟨x8, hx8⟩
  refine VL.r (.inl rfl) rfl (by decide) (yr_move rfl rfl) ?_
  refine VL.r (.inl rfl) rfl (by decide) (yr_extract rfl rfl rfl (by nofun)) ?_
  refine VL.r (.inl rfl) rfl (by decide) (yr_extract rfl rfl rfl (by nofun)) ?_
  refine VL.new1 (.inl rfl) rfl (by decide) (yn_alloc rfl zero30_UnS rfl) ?_
  intro b4
  refine VL.s (.inl rfl) rfl (yc_store rfl sz30_UnS rfl rfl (by repeat (first | exact UpdF.here | apply UpdF.there | apply UpdF.thereS)) (.inr ⟨rfl, rfl⟩) rfl (by first | exact Nat.le_of_ble_eq_true rfl | simp) (by decide) rfl) ?_
  rintro ⟨⟩
  refine VL.r (.inl rfl) rfl (by decide) (yr_assign rfl rfl) ?_
  refine VL.nil ?_
  refine VE.then_wp ?_
  refine V.seq ?_
  refine V.seq ?_
  refine V.region ?_
  refine VL.r (.inl rfl) rfl (by decide) (yr_move rfl rfl) ?_
  refine VL.r (.inl rfl) rfl (by decide) (yr_not rfl rfl) ?_
  refine VL.nil ?_
  refine VE.then_wp ?_
  refine V.cond rfl (fun h1 => ?_) (fun h1 => ?_)
  · skip
    replace h1 := bnot_t h1
    refine V.seq ?_
    refine V.region ?_
    refine VL.r (.inl rfl) rfl (by decide) (yr_build rfl lay30_UnS rfl .nil (by first | (simp; done) | (simp [vv]; done) | (simp [cn, cn1, cn0]; done)) rfl) ?_
    refine VL.s (.inl rfl) rfl (yc_store rfl sz30_UnS rfl rfl (by repeat (first | exact UpdF.here | apply UpdF.there | apply UpdF.thereS)) (.inr ⟨rfl, rfl⟩) rfl (by first | exact Nat.le_of_ble_eq_true rfl | simp) (by decide) rfl) ?_
    rintro ⟨⟩
    refine VL.r (.inl rfl) rfl (by decide) (yr_assign (u := .bool false) rfl rfl) ?_
    refine VL.nil ?_
    refine VE.then_wp ?_
    refine V.ret ?_
    refine VE.then_ret ?_
    refine retN rfl (.cons (rv_cellS rfl Try.underlying30 sz30_UnS (by first | exact Sees.root (by assumption) | exact Sees.own (by repeat (first | exact List.mem_cons_self | exact List.mem_append_left _ (by assumption) | apply List.mem_cons_of_mem | apply List.mem_append_right)) | exact Sees.root (hR _ (by omega)) | exact Sees.own (RowsIn.mem (by repeat (first | exact RowsIn.here | exact RowsIn.last | apply RowsIn.there | apply RowsIn.thereS)) _ (by omega)) | exact Sees.own (WRowsIn.mem (by repeat (first | exact WRowsIn.here | exact WRowsIn.last | apply WRowsIn.there | apply WRowsIn.thereS)) _ (by omega))) rfl rfl rfl) (.cons (rv_tmp rfl (by nofun)) .nil)) (by nofun) (fun w1 hw => ?_)
    first
      | (have ho : unOk s = false := by assumption
         exact ⟨(none, 0), (unRes_no ho).symm, hw.below, unEnt_no ho, List.pairwise_singleton _ _⟩)
      | (have ho : unOk s = true := by assumption
         obtain ⟨e1, e2, e3, e4, e5, e6⟩ := hx8 ho
         refine ⟨(x8.ar, x8.cr), ?_, ?_⟩
         · rw [unRes_yes ho, ← e1, ← e2, ← e3, ← e4, ← e5, ← e6]; rfl
         · rw [unR_yes ho, ← e6]; exact (hw.pick (by apply Pick.one; repeat (first | exact Rem.here | apply Rem.there))).out1)
  · skip
    replace h1 := bnot_f h1
    refine V.skip ?_
    refine VE.then_wp ?_
    refine V.seq ?_
    refine V.region ?_
    refine VL.q (.inl rfl) rfl (by decide) (yq_loadS rfl Try.underlying30 sz30_UnS rfl (by first | exact Sees.root (by assumption) | exact Sees.own (by repeat (first | exact List.mem_cons_self | exact List.mem_append_left _ (by assumption) | apply List.mem_cons_of_mem | apply List.mem_append_right)) | exact Sees.root (hR _ (by omega)) | exact Sees.own (RowsIn.mem (by repeat (first | exact RowsIn.here | exact RowsIn.last | apply RowsIn.there | apply RowsIn.thereS)) _ (by omega)) | exact Sees.own (WRowsIn.mem (by repeat (first | exact WRowsIn.here | exact WRowsIn.last | apply WRowsIn.there | apply WRowsIn.thereS)) _ (by omega))) rfl rfl rfl) ?_
    refine VL.s (.inl rfl) rfl (yc_store rfl sz30_UnS rfl rfl (by repeat (first | exact UpdF.here | apply UpdF.there | apply UpdF.thereS)) (.inr ⟨rfl, rfl⟩) rfl (by first | exact Nat.le_of_ble_eq_true rfl | simp) (by decide) rfl) ?_
    rintro ⟨⟩
    refine VL.r (.inl rfl) rfl (by decide) (yr_assign (u := .bool true) rfl rfl) ?_
    refine VL.nil ?_
    refine VE.then_wp ?_
    refine V.ret ?_
    refine retN rfl (.cons (rv_cellS rfl Try.underlying30 sz30_UnS (by first | exact Sees.root (by assumption) | exact Sees.own (by repeat (first | exact List.mem_cons_self | exact List.mem_append_left _ (by assumption) | apply List.mem_cons_of_mem | apply List.mem_append_right)) | exact Sees.root (hR _ (by omega)) | exact Sees.own (RowsIn.mem (by repeat (first | exact RowsIn.here | exact RowsIn.last | apply RowsIn.there | apply RowsIn.thereS)) _ (by omega)) | exact Sees.own (WRowsIn.mem (by repeat (first | exact WRowsIn.here | exact WRowsIn.last | apply WRowsIn.there | apply WRowsIn.thereS)) _ (by omega))) rfl rfl rfl) (.cons (rv_tmp rfl (by nofun)) .nil)) (by nofun) (fun w1 hw => ?_)
    first
      | (have ho : unOk s = false := by assumption
         exact ⟨(none, 0), (unRes_no ho).symm, hw.below, unEnt_no ho, List.pairwise_singleton _ _⟩)
      | (have ho : unOk s = true := by assumption
         obtain ⟨e1, e2, e3, e4, e5, e6⟩ := hx8 ho
         refine ⟨(x8.ar, x8.cr), ?_, ?_⟩
         · rw [unRes_yes ho, ← e1, ← e2, ← e3, ← e4, ← e5, ← e6]; rfl
         · rw [unR_yes ho, ← e6]; exact (hw.pick (by apply Pick.one; repeat (first | exact Rem.here | apply Rem.there))).out1)

end Go.Proofs.Ytnommdpgmoljcaa


namespace Go.Proofs.Ytnommdpgmoljcaa
open Go.RowKit
set_option linter.unusedVariables false
set_option linter.unusedSimpArgs false
set_option maxRecDepth 20000




end Go.Proofs.Ytnommdpgmoljcaa


namespace Go.Proofs.Ytnommdpgmoljcaa
open Go.RowKit
set_option linter.unusedVariables false
set_option linter.unusedSimpArgs false
set_option maxRecDepth 20000

attribute [local irreducible] fop fcmp fconv sqrt32 fneg segF fieldS fieldI List.getD

end Go.Proofs.Ytnommdpgmoljcaa


namespace Go.Proofs.Ytnommdpgmoljcaa
open Go.RowKit
set_option linter.unusedVariables false
set_option linter.unusedSimpArgs false
set_option maxRecDepth 20000

attribute [local irreducible] fop fcmp fconv sqrt32 fneg segF fieldS fieldI List.getD unit3 dirV dirI midI stepV stepOk dirOk


end Go.Proofs.Ytnommdpgmoljcaa


namespace Go.Proofs.Ytnommdpgmoljcaa
open Go.RowKit

def stK (ws : List Wr) (p : V3) (h : Nat) : Nat → V3 × Bool
  | 0 => (p, true)
  | k + 1 => if (stK ws p h k).2 then (stepV ws (stK ws p h k).1 h, stepOk ws (stK ws p h k).1 h) else (z3, false)
section
variable {ws : List Wr} {p : V3} {h st near : Nat}
end
def hN (st n : Nat) : Nat := fop .quo .f32 st (FloatKind.f32.nearest (n : Int))
section
variable {ws : List Wr} {p : V3} {st near i : Nat}
end
section
variable {ws : List Wr} {p : V3} {st near i : Nat}
end

/-! ### checked -/
section
variable {ws : List Wr} {p : V3} {st near i : Nat}
end
end Go.Proofs.Ytnommdpgmoljcaa


namespace Go.Proofs.Ytnommdpgmoljcaa
open Go.RowKit

def flat : List V3 → List Nat
  | [] => []
  | v :: vs => v.1 :: v.2.1 :: v.2.2 :: flat vs
theorem vl_flat : ∀ vs : List V3, vl vs = fl (flat vs)
  | [] => rfl
  | v :: vs => by
    have ih := vl_flat vs
    simp only [vl, flat, ih, fl, List.map_cons]
theorem flat_length : ∀ vs : List V3, (flat vs).length = vs.length * 3
  | [] => rfl
  | v :: vs => by simp only [flat, List.length_cons, flat_length vs]; omega
theorem marks3 {ys : List Nat} {k0 : Int} {n k : Nat} (hl : ys.length = n * 3) (ht : ys.take (k * 3) = marks k0 (k * 3)) (hk : k < n) :
    (((ys.set (k * 3) (FloatKind.f32.nearest (k0 + ((k * 3 : Nat) : Int)))).set (k * 3 + 1) (FloatKind.f32.nearest (k0 + ((k * 3 : Nat) : Int) + 1))).set (k * 3 + 2) (FloatKind.f32.nearest (k0 + ((k * 3 : Nat) : Int) + 1 + 1))).take ((k + 1) * 3) = marks k0 ((k + 1) * 3) := by
  have h1 := take_marks hl ht (by omega)
  have h2 := take_marks (n := n * 3) (by simp [hl]) h1 (by omega)
  have h3 := take_marks (n := n * 3) (by simp [hl]) h2 (by omega)
  rw [show k0 + ((k * 3 + 1 : Nat) : Int) = k0 + ((k * 3 : Nat) : Int) + 1 by omega, show k0 + ((k * 3 + 1 + 1 : Nat) : Int) = k0 + ((k * 3 : Nat) : Int) + 1 + 1 by omega] at h3
  rw [show (k + 1) * 3 = k * 3 + 1 + 1 + 1 by omega]
  exact h3
/-- A list of headers of wires of which the points alone are told. -/
def WH (f : Nat → Option Addr × Nat) (ws : List Wr) (us : List Value) : Prop := us.length = ws.length * 3 ∧ us.all scal = true ∧ ∀ i, i < ws.length → us[i * 3]? = some (.slice (f i).1 (ws.getD i zw).1.length (f i).2)
theorem WH.first (f : Nat → Option Addr × Nat) (ws : List Wr) : WH f ws (whd f ws) := ⟨whd_length f ws, whd_scal f ws, fun _ h => whd_get0 h⟩
theorem WH.set {f : Nat → Option Addr × Nat} {ws : List Wr} {us : List Value} {j : Nat} {v : Value} (h : WH f ws us) (hj : j % 3 ≠ 0) (hv : scal v = true) : WH f ws (us.set j v) := by
  refine ⟨by rw [List.length_set]; exact h.1, ?_, fun i hi => ?_⟩
  · rw [List.all_eq_true]
    intro x hx
    rcases List.mem_or_eq_of_mem_set hx with h1 | h1
    · exact (List.all_eq_true.1 h.2.1) x h1
    · rw [h1]; exact hv
  · rw [List.getElem?_set_ne (by omega)]
    exact h.2.2 i hi
/-! ### a line -/
section
variable {ws : List Wr} {p : V3} {st k n : Nat}
end
section
variable {ws : List Wr} {p : V3} {st : Nat} {rn : Int}
end
end Go.Proofs.Ytnommdpgmoljcaa


namespace Go.Proofs.Ytnommdpgmoljcaa
open Go.RowKit
set_option linter.unusedVariables false
set_option linter.unusedSimpArgs false
set_option maxRecDepth 20000

theorem sz27_MarkW : (Try.prog.info? 27).map (·.size) = some 3 := by kernel_rfl
theorem sz23_MarkW : (Try.prog.info? 23).map (·.size) = some 1 := by kernel_rfl
theorem fb23_MarkW : flatB Try.prog 23 = true := by kernel_rfl
attribute [local irreducible] fop fcmp fconv sqrt32 fneg segF fieldS fieldI List.getD unit3 dirV dirI midI stepV stepOk dirOk stK

theorem c_markV {w0 : World} {a : Option Addr} {c cap : Nat} {vs : List V3} {k0 : Int} (h0 : 0 ≤ k0) (hk0 : k0 ≤ 100000000) (hn : vs.length ≤ 1050000) : Mut Try.prog 52 [.slice a vs.length c, .int .i64 k0] w0 [⟨a, vl vs, cap, 27⟩] (fun _ : Unit => .int .i64 (k0 + ((vs.length * 3 : Nat) : Int))) (fun _ => [⟨a, fl (marks k0 (vs.length * 3)), cap, 27⟩]) := by
  refine Mut.enter Try.func52 rfl Try.ntmps52 (Nat.le_of_ble_eq_true rfl) ?_
  intro F
  refine V.seq ?_
  refine V.region ?_
  refine VL.r (.inl rfl) rfl (by decide) (yr_assign (u := .int .i64 0) rfl rfl) ?_
  refine VL.nil ?_
  refine VE.then_wp ?_
  refine V.seq ?_
  refine V.seq ?_
  refine V.region ?_
  refine VL.r (.inl rfl) rfl (by decide) (yr_assign (u := .int .i64 0) rfl rfl) ?_
  refine VL.nil ?_
  refine VE.then_wp ?_
  refine V.block ?_
  refine V.loopc (G := Nat × (List Nat)) [(0, _)] (fun ⟨k, ys⟩ => k ≤ vs.length ∧ ys.length = vs.length * 3 ∧ ys.take (k * 3) = marks k0 (k * 3)) (fun ⟨k, ys⟩ => (F ++ [⟨a, fl ys, cap, 27⟩])) (fun ⟨k, ys⟩ => [(1, .int .i64 (k0 + ((k * 3 : Nat) : Int))), (5, .int .i64 (k : Int))]) (fun ⟨k, ys⟩ => vs.length - k) (0, flat vs) (.cons rfl .nil) (.cons (congrArg (fun i => some (Value.int .i64 i)) (by omega)) (.cons rfl .nil)) ?_ ?_ ?_
  · exact (fun w hw => by rw [vl_flat] at hw; exact hw)
  · exact (by exact ⟨by omega, flat_length _, rfl⟩)
  rintro ⟨k, ys⟩ ⟨hk, hl, ht⟩
  show V _ _ _ (F ++ [⟨a, fl ys, cap, 27⟩]) ([(1, .int .i64 (k0 + ((k * 3 : Nat) : Int))), (5, .int .i64 (k : Int))] ++ [(0, _)]) _ _
  refine V.seq ?_
  refine V.seq ?_
  refine V.region ?_
  refine VL.r (.inl rfl) rfl (by decide) (yr_move rfl rfl) ?_
  refine VL.r (.inl rfl) rfl (by decide) (yr_move rfl rfl) ?_
  refine VL.r (.inl rfl) rfl (by decide) (yr_len rfl Try.underlying28 rfl) ?_
  refine VL.r (.inl rfl) rfl (by decide) (yr_icmp rfl (.inr (.inr (.inl rfl))) rfl rfl) ?_
  refine VL.nil ?_
  refine VE.then_wp ?_
  refine V.cond rfl (fun h1 => ?_) (fun h1 => ?_)
  · skip
    replace h1 := ic_lss h1
    refine V.skip ?_
    refine VE.then_wp ?_
    refine V.seq ?_
    refine V.block ?_
    refine V.seq ?_
    refine V.region ?_
    refine VL.r (.inl rfl) rfl (by decide) (yr_move rfl rfl) ?_
    refine VL.r (.inl rfl) rfl (by decide) (yr_move rfl rfl) ?_
    refine VL.r (.inl rfl) rfl (by decide) (yr_move rfl rfl) ?_
    refine VL.r (.inl rfl) rfl (by decide) (yr_ofInt rfl Try.underlying3 Try.underlying23 rfl) ?_
    refine VL.q (.inl rfl) rfl (by decide) (yq_idxN (k := k) rfl Try.underlying28 sz27_MarkW rfl rfl (by first | exact Sees.root (by assumption) | exact Sees.own (by repeat (first | exact List.mem_cons_self | exact List.mem_append_left _ (by assumption) | apply List.mem_cons_of_mem | apply List.mem_append_right)) | exact Sees.root (hR _ (by omega)) | exact Sees.own (RowsIn.mem (by repeat (first | exact RowsIn.here | exact RowsIn.last | apply RowsIn.there | apply RowsIn.thereS)) _ (by omega)) | exact Sees.own (WRowsIn.mem (by repeat (first | exact WRowsIn.here | exact WRowsIn.last | apply WRowsIn.there | apply WRowsIn.thereS)) _ (by omega))) (by first | rfl | omega | (push_cast; rfl) | (push_cast; omega) | exact tmod_nat _ _) (by first | (rw [fl_length]; omega) | (rw [fl_length, List.length_set]; omega) | (rw [fl_length, List.length_set, List.length_set]; omega)) (by decide) (by omega)) ?_
    refine VL.r (.inl rfl) rfl (by decide) (show YR _ _ _ (.pointer (some (adr _ (_ + 0)))) from yr_fieldAddr rfl Try.underlying27 rfl rfl sz23_MarkW (by decide) rfl) ?_
    refine VL.s (.inl rfl) rfl (yc_store rfl sz23_MarkW rfl rfl (by repeat (first | exact UpdF.here | apply UpdF.there | apply UpdF.thereS)) (.inl ⟨rfl, rfl⟩) rfl (by rw [fl_length]; (try simp only [List.length_set]); omega) (by decide) (fl_set _ _ _)) ?_
    rintro ⟨⟩
    refine VL.nil ?_
    refine VE.then_wp ?_
    refine V.seq ?_
    refine V.region ?_
    refine VL.r (.inl rfl) rfl (by decide) (yr_move rfl rfl) ?_
    refine VL.r (.inl rfl) rfl (by decide) (yr_int rfl rfl rfl (.inl ⟨rfl, wrap_in (by omega)⟩)) ?_
    refine VL.r (.inl rfl) rfl (by decide) (yr_assign rfl rfl) ?_
    refine VL.nil ?_
    refine VE.then_wp ?_
    refine V.seq ?_
    refine V.region ?_
    refine VL.r (.inl rfl) rfl (by decide) (yr_move rfl rfl) ?_
    refine VL.r (.inl rfl) rfl (by decide) (yr_move rfl rfl) ?_
    refine VL.r (.inl rfl) rfl (by decide) (yr_move rfl rfl) ?_
    refine VL.r (.inl rfl) rfl (by decide) (yr_ofInt rfl Try.underlying3 Try.underlying23 rfl) ?_
    refine VL.q (.inl rfl) rfl (by decide) (yq_idxN (k := k) rfl Try.underlying28 sz27_MarkW rfl rfl (by first | exact Sees.root (by assumption) | exact Sees.own (by repeat (first | exact List.mem_cons_self | exact List.mem_append_left _ (by assumption) | apply List.mem_cons_of_mem | apply List.mem_append_right)) | exact Sees.root (hR _ (by omega)) | exact Sees.own (RowsIn.mem (by repeat (first | exact RowsIn.here | exact RowsIn.last | apply RowsIn.there | apply RowsIn.thereS)) _ (by omega)) | exact Sees.own (WRowsIn.mem (by repeat (first | exact WRowsIn.here | exact WRowsIn.last | apply WRowsIn.there | apply WRowsIn.thereS)) _ (by omega))) (by first | rfl | omega | (push_cast; rfl) | (push_cast; omega) | exact tmod_nat _ _) (by first | (rw [fl_length]; omega) | (rw [fl_length, List.length_set]; omega) | (rw [fl_length, List.length_set, List.length_set]; omega)) (by decide) (by omega)) ?_
    refine VL.r (.inl rfl) rfl (by decide) (show YR _ _ _ (.pointer (some (adr _ (_ + 1)))) from yr_fieldAddr rfl Try.underlying27 rfl rfl sz23_MarkW (by decide) rfl) ?_
    refine VL.s (.inl rfl) rfl (yc_store rfl sz23_MarkW rfl rfl (by repeat (first | exact UpdF.here | apply UpdF.there | apply UpdF.thereS)) (.inl ⟨rfl, rfl⟩) rfl (by rw [fl_length]; (try simp only [List.length_set]); omega) (by decide) (fl_set _ _ _)) ?_
    rintro ⟨⟩
    refine VL.nil ?_
    refine VE.then_wp ?_
    refine V.seq ?_
    refine V.region ?_
    refine VL.r (.inl rfl) rfl (by decide) (yr_move rfl rfl) ?_
    refine VL.r (.inl rfl) rfl (by decide) (yr_int rfl rfl rfl (.inl ⟨rfl, wrap_in (by omega)⟩)) ?_
    refine VL.r (.inl rfl) rfl (by decide) (yr_assign rfl rfl) ?_
    refine VL.nil ?_
    refine VE.then_wp ?_
    refine V.seq ?_
    refine V.region ?_
    refine VL.r (.inl rfl) rfl (by decide) (yr_move rfl rfl) ?_
    refine VL.r (.inl rfl) rfl (by decide) (yr_move rfl rfl) ?_
    refine VL.r (.inl rfl) rfl (by decide) (yr_move rfl rfl) ?_
    refine VL.r (.inl rfl) rfl (by decide) (yr_ofInt rfl Try.underlying3 Try.underlying23 rfl) ?_
    refine VL.q (.inl rfl) rfl (by decide) (yq_idxN (k := k) rfl Try.underlying28 sz27_MarkW rfl rfl (by first | exact Sees.root (by assumption) | exact Sees.own (by repeat (first | exact List.mem_cons_self | exact List.mem_append_left _ (by assumption) | apply List.mem_cons_of_mem | apply List.mem_append_right)) | exact Sees.root (hR _ (by omega)) | exact Sees.own (RowsIn.mem (by repeat (first | exact RowsIn.here | exact RowsIn.last | apply RowsIn.there | apply RowsIn.thereS)) _ (by omega)) | exact Sees.own (WRowsIn.mem (by repeat (first | exact WRowsIn.here | exact WRowsIn.last | apply WRowsIn.there | apply WRowsIn.thereS)) _ (by omega))) (by first | rfl | omega | (push_cast; rfl) | (push_cast; omega) | exact tmod_nat _ _) (by first | (rw [fl_length]; omega) | (rw [fl_length, List.length_set]; omega) | (rw [fl_length, List.length_set, List.length_set]; omega)) (by decide) (by omega)) ?_
    refine VL.r (.inl rfl) rfl (by decide) (show YR _ _ _ (.pointer (some (adr _ (_ + 2)))) from yr_fieldAddr rfl Try.underlying27 rfl rfl sz23_MarkW (by decide) rfl) ?_
    refine VL.s (.inl rfl) rfl (yc_store rfl sz23_MarkW rfl rfl (by repeat (first | exact UpdF.here | apply UpdF.there | apply UpdF.thereS)) (.inl ⟨rfl, rfl⟩) rfl (by rw [fl_length]; (try simp only [List.length_set]); omega) (by decide) (fl_set _ _ _)) ?_
    rintro ⟨⟩
    refine VL.nil ?_
    refine VE.then_wp ?_
    refine V.region ?_
    refine VL.r (.inl rfl) rfl (by decide) (yr_move rfl rfl) ?_
    refine VL.r (.inl rfl) rfl (by decide) (yr_int rfl rfl rfl (.inl ⟨rfl, wrap_in (by omega)⟩)) ?_
    refine VL.r (.inl rfl) rfl (by decide) (yr_assign rfl rfl) ?_
    refine VL.nil ?_
    refine VE.block_normal ?_
    refine VE.then_wp ?_
    refine V.region ?_
    refine VL.r (.inl rfl) rfl (by decide) (yr_move rfl rfl) ?_
    refine VL.r (.inl rfl) rfl (by decide) (yr_int rfl rfl rfl (.inl ⟨rfl, wrap_in (by omega)⟩)) ?_
    refine VL.r (.inl rfl) rfl (by decide) (yr_assign rfl rfl) ?_
    refine VL.nil ?_
    refine VE.round (k + 1, ((ys.set (k * 3) (FloatKind.f32.nearest (k0 + ((k * 3 : Nat) : Int)))).set (k * 3 + 1) (FloatKind.f32.nearest (k0 + ((k * 3 : Nat) : Int) + 1))).set (k * 3 + 2) (FloatKind.f32.nearest (k0 + ((k * 3 : Nat) : Int) + 1 + 1))) ?_ ?_ ?_ ?_ ?_
    · exact (.cons (congrArg (fun i => some (Value.int .i64 i)) (by omega)) (.cons rfl .nil))
    · exact (.cons rfl .nil)
    · exact (fun w hw => hw)
    · exact ⟨by omega, by simp only [List.length_set]; exact hl, marks3 hl ht (by omega)⟩
    · (try dsimp only); omega
  · skip
    replace h1 := ic_lss' h1
    refine V.exit ?_
    refine VE.then_exit ?_
    refine VE.then_exit ?_
    refine VE.block_here ?_
    refine VE.then_wp ?_
    refine V.seq ?_
    refine V.region ?_
    refine VL.r (.inl rfl) rfl (by decide) (yr_move rfl rfl) ?_
    refine VL.r (.inl rfl) rfl (by decide) (yr_assign rfl rfl) ?_
    refine VL.nil ?_
    refine VE.then_wp ?_
    refine V.ret ?_
    refine ret1 rfl rfl (fun w1 hw => ?_)
    obtain rfl : k = vs.length := by omega
    rw [List.take_of_length_le (by omega)] at ht
    subst ht
    exact ⟨(), rfl, hw⟩

theorem c_heldV {w : World} {a : Option Addr} {c n : Nat} {k0 : Int} (hA : Cl w a (fl (marks k0 (n * 3)))) (h0 : 0 ≤ k0) (hk0 : k0 ≤ 100000000) (hn : n ≤ 1050000) : Pure Try.prog 53 [.slice a n c, .int .i64 k0] w (.int .i64 (k0 + ((n * 3 : Nat) : Int))) := by
  refine Pure.enter Try.func53 rfl Try.ntmps53 (Nat.le_of_ble_eq_true rfl) ?_
  refine V.seq ?_
  refine V.region ?_
  refine VL.r (.inl rfl) rfl (by decide) (yr_assign (u := .int .i64 0) rfl rfl) ?_
  refine VL.nil ?_
  refine VE.then_wp ?_
  refine V.seq ?_
  refine V.seq ?_
  refine V.region ?_
  refine VL.r (.inl rfl) rfl (by decide) (yr_assign (u := .int .i64 0) rfl rfl) ?_
  refine VL.nil ?_
  refine VE.then_wp ?_
  refine V.block ?_
  refine V.loops (G := Nat) [(0, _)] (fun (k : Nat) => k ≤ n) (fun (k : Nat) => [(1, .int .i64 (k0 + ((k * 3 : Nat) : Int))), (5, .int .i64 (k : Int))]) (fun (k : Nat) => n - k) 0 (.cons rfl .nil) (.cons (congrArg (fun i => some (Value.int .i64 i)) (by omega)) (.cons rfl .nil)) ?_ ?_
  · exact (by omega)
  rintro k hk
  show V _ _ _ _ ([(1, .int .i64 (k0 + ((k * 3 : Nat) : Int))), (5, .int .i64 (k : Int))] ++ [(0, _)]) _ _
  refine V.seq ?_
  refine V.seq ?_
  refine V.region ?_
  refine VL.r (.inl rfl) rfl (by decide) (yr_move rfl rfl) ?_
  refine VL.r (.inl rfl) rfl (by decide) (yr_move rfl rfl) ?_
  refine VL.r (.inl rfl) rfl (by decide) (yr_len rfl Try.underlying28 rfl) ?_
  refine VL.r (.inl rfl) rfl (by decide) (yr_icmp rfl (.inr (.inr (.inl rfl))) rfl rfl) ?_
  refine VL.nil ?_
  refine VE.then_wp ?_
  refine V.cond rfl (fun h1 => ?_) (fun h1 => ?_)
  · skip
    replace h1 := ic_lss h1
    refine V.skip ?_
    refine VE.then_wp ?_
    refine V.seq ?_
    refine V.block ?_
    refine V.seq ?_
    refine V.seq ?_
    refine V.region ?_
    refine VL.r (.inl rfl) rfl (by decide) (yr_move rfl rfl) ?_
    refine VL.r (.inl rfl) rfl (by decide) (yr_move rfl rfl) ?_
    refine VL.q (.inl rfl) rfl (by decide) (yq_idxN (k := k) rfl Try.underlying28 sz27_MarkW rfl rfl (by first | exact Sees.root (by assumption) | exact Sees.own (by repeat (first | exact List.mem_cons_self | exact List.mem_append_left _ (by assumption) | apply List.mem_cons_of_mem | apply List.mem_append_right)) | exact Sees.root (hR _ (by omega)) | exact Sees.own (RowsIn.mem (by repeat (first | exact RowsIn.here | exact RowsIn.last | apply RowsIn.there | apply RowsIn.thereS)) _ (by omega)) | exact Sees.own (WRowsIn.mem (by repeat (first | exact WRowsIn.here | exact WRowsIn.last | apply WRowsIn.there | apply WRowsIn.thereS)) _ (by omega))) (by first | rfl | omega | (push_cast; rfl) | (push_cast; omega) | exact tmod_nat _ _) (by rw [fl_length, marks_length]) (by decide) (by first | omega | (rw [marks_length]; omega))) ?_
    refine VL.r (.inl rfl) rfl (by decide) (show YR _ _ _ (.pointer (some (adr _ (_ + 0)))) from yr_fieldAddr rfl Try.underlying27 rfl rfl sz23_MarkW (by decide) rfl) ?_
    refine VL.q (.inl rfl) rfl (by decide) (yq_loadF rfl fb23_MarkW rfl (by first | exact Sees.root (by assumption) | exact Sees.own (by repeat (first | exact List.mem_cons_self | exact List.mem_append_left _ (by assumption) | apply List.mem_cons_of_mem | apply List.mem_append_right)) | exact Sees.root (hR _ (by omega)) | exact Sees.own (RowsIn.mem (by repeat (first | exact RowsIn.here | exact RowsIn.last | apply RowsIn.there | apply RowsIn.thereS)) _ (by omega)) | exact Sees.own (WRowsIn.mem (by repeat (first | exact WRowsIn.here | exact WRowsIn.last | apply WRowsIn.there | apply WRowsIn.thereS)) _ (by omega))) (by first | omega | (rw [marks_length]; omega))) ?_
    refine VL.r (.inl rfl) rfl (by decide) (yr_move rfl rfl) ?_
    refine VL.r (.inl rfl) rfl (by decide) (yr_ofInt rfl Try.underlying3 Try.underlying23 rfl) ?_
    refine VL.r (.inl rfl) rfl (by decide) (yr_fcmp rfl (.inr (.inl rfl)) rfl rfl) ?_
    refine VL.nil ?_
    refine VE.then_wp ?_
    refine V.cond rfl (fun h2 => ?_) (fun h2 => ?_)
    · skip
      refine V.seq ?_
      refine V.region ?_
      refine VL.r (.inl rfl) rfl (by decide) (yr_assign (u := .int .i64 (-1)) rfl rfl) ?_
      refine VL.nil ?_
      refine VE.then_wp ?_
      refine V.ret ?_
      refine VE.then_ret ?_
      refine VE.block_ret ?_
      refine VE.then_ret ?_
      refine VE.then_ret ?_
      refine VE.block_ret ?_
      refine VE.then_ret ?_
      refine ret1 rfl rfl (fun w1 hw => ?_)
      exfalso
      rw [marks_get (by omega), show k0 + ((k * 3 + 0 : Nat) : Int) = k0 + ((k * 3 : Nat) : Int) from rfl, fne_self, nearest_num] at h2
      cases h2
    · skip
      refine V.skip ?_
      refine VE.then_wp ?_
      refine V.seq ?_
      refine V.region ?_
      refine VL.r (.inl rfl) rfl (by decide) (yr_move rfl rfl) ?_
      refine VL.r (.inl rfl) rfl (by decide) (yr_int rfl rfl rfl (.inl ⟨rfl, wrap_in (by omega)⟩)) ?_
      refine VL.r (.inl rfl) rfl (by decide) (yr_assign rfl rfl) ?_
      refine VL.nil ?_
      refine VE.then_wp ?_
      refine V.seq ?_
      refine V.seq ?_
      refine V.region ?_
      refine VL.r (.inl rfl) rfl (by decide) (yr_move rfl rfl) ?_
      refine VL.r (.inl rfl) rfl (by decide) (yr_move rfl rfl) ?_
      refine VL.q (.inl rfl) rfl (by decide) (yq_idxN (k := k) rfl Try.underlying28 sz27_MarkW rfl rfl (by first | exact Sees.root (by assumption) | exact Sees.own (by repeat (first | exact List.mem_cons_self | exact List.mem_append_left _ (by assumption) | apply List.mem_cons_of_mem | apply List.mem_append_right)) | exact Sees.root (hR _ (by omega)) | exact Sees.own (RowsIn.mem (by repeat (first | exact RowsIn.here | exact RowsIn.last | apply RowsIn.there | apply RowsIn.thereS)) _ (by omega)) | exact Sees.own (WRowsIn.mem (by repeat (first | exact WRowsIn.here | exact WRowsIn.last | apply WRowsIn.there | apply WRowsIn.thereS)) _ (by omega))) (by first | rfl | omega | (push_cast; rfl) | (push_cast; omega) | exact tmod_nat _ _) (by rw [fl_length, marks_length]) (by decide) (by first | omega | (rw [marks_length]; omega))) ?_
      refine VL.r (.inl rfl) rfl (by decide) (show YR _ _ _ (.pointer (some (adr _ (_ + 1)))) from yr_fieldAddr rfl Try.underlying27 rfl rfl sz23_MarkW (by decide) rfl) ?_
      refine VL.q (.inl rfl) rfl (by decide) (yq_loadF rfl fb23_MarkW rfl (by first | exact Sees.root (by assumption) | exact Sees.own (by repeat (first | exact List.mem_cons_self | exact List.mem_append_left _ (by assumption) | apply List.mem_cons_of_mem | apply List.mem_append_right)) | exact Sees.root (hR _ (by omega)) | exact Sees.own (RowsIn.mem (by repeat (first | exact RowsIn.here | exact RowsIn.last | apply RowsIn.there | apply RowsIn.thereS)) _ (by omega)) | exact Sees.own (WRowsIn.mem (by repeat (first | exact WRowsIn.here | exact WRowsIn.last | apply WRowsIn.there | apply WRowsIn.thereS)) _ (by omega))) (by first | omega | (rw [marks_length]; omega))) ?_
      refine VL.r (.inl rfl) rfl (by decide) (yr_move rfl rfl) ?_
      refine VL.r (.inl rfl) rfl (by decide) (yr_ofInt rfl Try.underlying3 Try.underlying23 rfl) ?_
      refine VL.r (.inl rfl) rfl (by decide) (yr_fcmp rfl (.inr (.inl rfl)) rfl rfl) ?_
      refine VL.nil ?_
      refine VE.then_wp ?_
      refine V.cond rfl (fun h3 => ?_) (fun h3 => ?_)
      · skip
        refine V.seq ?_
        refine V.region ?_
        refine VL.r (.inl rfl) rfl (by decide) (yr_assign (u := .int .i64 (-1)) rfl rfl) ?_
        refine VL.nil ?_
        refine VE.then_wp ?_
        refine V.ret ?_
        refine VE.then_ret ?_
        refine VE.block_ret ?_
        refine VE.then_ret ?_
        refine VE.then_ret ?_
        refine VE.block_ret ?_
        refine VE.then_ret ?_
        refine ret1 rfl rfl (fun w1 hw => ?_)
        exfalso
        rw [marks_get (by omega), show k0 + ((k * 3 + 1 : Nat) : Int) = k0 + ((k * 3 : Nat) : Int) + 1 by omega, fne_self, nearest_num] at h3
        cases h3
      · skip
        refine V.skip ?_
        refine VE.then_wp ?_
        refine V.seq ?_
        refine V.region ?_
        refine VL.r (.inl rfl) rfl (by decide) (yr_move rfl rfl) ?_
        refine VL.r (.inl rfl) rfl (by decide) (yr_int rfl rfl rfl (.inl ⟨rfl, wrap_in (by omega)⟩)) ?_
        refine VL.r (.inl rfl) rfl (by decide) (yr_assign rfl rfl) ?_
        refine VL.nil ?_
        refine VE.then_wp ?_
        refine V.seq ?_
        refine V.seq ?_
        refine V.region ?_
        refine VL.r (.inl rfl) rfl (by decide) (yr_move rfl rfl) ?_
        refine VL.r (.inl rfl) rfl (by decide) (yr_move rfl rfl) ?_
        refine VL.q (.inl rfl) rfl (by decide) (yq_idxN (k := k) rfl Try.underlying28 sz27_MarkW rfl rfl (by first | exact Sees.root (by assumption) | exact Sees.own (by repeat (first | exact List.mem_cons_self | exact List.mem_append_left _ (by assumption) | apply List.mem_cons_of_mem | apply List.mem_append_right)) | exact Sees.root (hR _ (by omega)) | exact Sees.own (RowsIn.mem (by repeat (first | exact RowsIn.here | exact RowsIn.last | apply RowsIn.there | apply RowsIn.thereS)) _ (by omega)) | exact Sees.own (WRowsIn.mem (by repeat (first | exact WRowsIn.here | exact WRowsIn.last | apply WRowsIn.there | apply WRowsIn.thereS)) _ (by omega))) (by first | rfl | omega | (push_cast; rfl) | (push_cast; omega) | exact tmod_nat _ _) (by rw [fl_length, marks_length]) (by decide) (by first | omega | (rw [marks_length]; omega))) ?_
        refine VL.r (.inl rfl) rfl (by decide) (show YR _ _ _ (.pointer (some (adr _ (_ + 2)))) from yr_fieldAddr rfl Try.underlying27 rfl rfl sz23_MarkW (by decide) rfl) ?_
        refine VL.q (.inl rfl) rfl (by decide) (yq_loadF rfl fb23_MarkW rfl (by first | exact Sees.root (by assumption) | exact Sees.own (by repeat (first | exact List.mem_cons_self | exact List.mem_append_left _ (by assumption) | apply List.mem_cons_of_mem | apply List.mem_append_right)) | exact Sees.root (hR _ (by omega)) | exact Sees.own (RowsIn.mem (by repeat (first | exact RowsIn.here | exact RowsIn.last | apply RowsIn.there | apply RowsIn.thereS)) _ (by omega)) | exact Sees.own (WRowsIn.mem (by repeat (first | exact WRowsIn.here | exact WRowsIn.last | apply WRowsIn.there | apply WRowsIn.thereS)) _ (by omega))) (by first | omega | (rw [marks_length]; omega))) ?_
        refine VL.r (.inl rfl) rfl (by decide) (yr_move rfl rfl) ?_
        refine VL.r (.inl rfl) rfl (by decide) (yr_ofInt rfl Try.underlying3 Try.underlying23 rfl) ?_
        refine VL.r (.inl rfl) rfl (by decide) (yr_fcmp rfl (.inr (.inl rfl)) rfl rfl) ?_
        refine VL.nil ?_
        refine VE.then_wp ?_
        refine V.cond rfl (fun h4 => ?_) (fun h4 => ?_)
        · skip
          refine V.seq ?_
          refine V.region ?_
          refine VL.r (.inl rfl) rfl (by decide) (yr_assign (u := .int .i64 (-1)) rfl rfl) ?_
          refine VL.nil ?_
          refine VE.then_wp ?_
          refine V.ret ?_
          refine VE.then_ret ?_
          refine VE.block_ret ?_
          refine VE.then_ret ?_
          refine VE.then_ret ?_
          refine VE.block_ret ?_
          refine VE.then_ret ?_
          refine ret1 rfl rfl (fun w1 hw => ?_)
          exfalso
          rw [marks_get (by omega), show k0 + ((k * 3 + 2 : Nat) : Int) = k0 + ((k * 3 : Nat) : Int) + 1 + 1 by omega, fne_self, nearest_num] at h4
          cases h4
        · skip
          refine V.skip ?_
          refine VE.then_wp ?_
          refine V.region ?_
          refine VL.r (.inl rfl) rfl (by decide) (yr_move rfl rfl) ?_
          refine VL.r (.inl rfl) rfl (by decide) (yr_int rfl rfl rfl (.inl ⟨rfl, wrap_in (by omega)⟩)) ?_
          refine VL.r (.inl rfl) rfl (by decide) (yr_assign rfl rfl) ?_
          refine VL.nil ?_
          refine VE.block_normal ?_
          refine VE.then_wp ?_
          refine V.region ?_
          refine VL.r (.inl rfl) rfl (by decide) (yr_move rfl rfl) ?_
          refine VL.r (.inl rfl) rfl (by decide) (yr_int rfl rfl rfl (.inl ⟨rfl, wrap_in (by omega)⟩)) ?_
          refine VL.r (.inl rfl) rfl (by decide) (yr_assign rfl rfl) ?_
          refine VL.nil ?_
          refine VE.round (k + 1) ?_ ?_ ?_ ?_ ?_
          · exact (.cons (congrArg (fun i => some (Value.int .i64 i)) (by omega)) (.cons rfl .nil))
          · exact (.cons rfl .nil)
          · exact (fun w hw => hw)
          · omega
          · (try dsimp only); omega
  · skip
    replace h1 := ic_lss' h1
    refine V.exit ?_
    refine VE.then_exit ?_
    refine VE.then_exit ?_
    refine VE.block_here ?_
    refine VE.then_wp ?_
    refine V.seq ?_
    refine V.region ?_
    refine VL.r (.inl rfl) rfl (by decide) (yr_move rfl rfl) ?_
    refine VL.r (.inl rfl) rfl (by decide) (yr_assign rfl rfl) ?_
    refine VL.nil ?_
    refine VE.then_wp ?_
    refine V.ret ?_
    refine ret1 rfl rfl (fun w1 hw => ?_)
    obtain rfl : k = n := by omega
    exact ⟨rfl, hw.below⟩

end Go.Proofs.Ytnommdpgmoljcaa


namespace Go.Proofs.Ytnommdpgmoljcaa
open Go.RowKit
set_option linter.unusedVariables false
set_option linter.unusedSimpArgs false
set_option maxRecDepth 20000

theorem sz28_MeshM : (Try.prog.info? 28).map (·.size) = some 1 := by kernel_rfl
theorem fb28_MeshM : flatB Try.prog 28 = true := by kernel_rfl
theorem known52_MeshM : Known Try.prog 52 := Known.mk' Try.func52 (by kernel_rfl)
theorem known53_MeshM : Known Try.prog 53 := Known.mk' Try.func53 (by kernel_rfl)
attribute [local irreducible] fop fcmp fconv sqrt32 fneg segF fieldS fieldI List.getD

theorem c_markMesh {w0 : World} {f1 f2 f3 st : Nat} {wi hi de : Int} {a : Option Addr} {c : Nat} {vs : List V3} {cap : Nat} {k0 : Int} (h0 : 0 ≤ k0) (hk0 : k0 ≤ 100000000) (hn : vs.length ≤ 1050000) : Mut Try.prog 16 [.agg #[.float .f32 f1, .float .f32 f2, .float .f32 f3, .float .f32 st, .int .i64 wi, .int .i64 hi, .int .i64 de, .slice a vs.length c], .int .i64 k0] w0 [⟨a, vl vs, cap, 27⟩] (fun _ : Unit => .int .i64 (k0 + ((vs.length * 3 : Nat) : Int))) (fun _ => [⟨a, fl (marks k0 (vs.length * 3)), cap, 27⟩]) := by
  refine Mut.enter Try.func16 rfl Try.ntmps16 (Nat.le_of_ble_eq_true rfl) ?_
  intro F
  refine V.seq ?_
  refine V.region ?_
  refine VL.new1 (.inl rfl) rfl (by decide) (yn_box rfl rfl (.inr ⟨rfl, rfl⟩)) ?_
  intro b2
  refine VL.r (.inl rfl) rfl (by decide) (yr_assign (u := .int .i64 0) rfl rfl) ?_
  refine VL.nil ?_
  refine VE.then_wp ?_
  refine V.seq ?_
  refine V.region ?_
  refine VL.r (.inl rfl) rfl (by decide) (yr_fieldAddr rfl Try.underlying30 rfl rfl sz28_MeshM (by decide) rfl) ?_
  refine VL.q (.inl rfl) rfl (by decide) (yq_load rfl fb28_MeshM rfl (by first | exact Sees.root (by assumption) | exact Sees.own (by repeat (first | exact List.mem_cons_self | exact List.mem_append_left _ (by assumption) | apply List.mem_cons_of_mem | apply List.mem_append_right)) | exact Sees.root (hR _ (by omega)) | exact Sees.own (RowsIn.mem (by repeat (first | exact RowsIn.here | exact RowsIn.last | apply RowsIn.there | apply RowsIn.thereS)) _ (by omega)) | exact Sees.own (WRowsIn.mem (by repeat (first | exact WRowsIn.here | exact WRowsIn.last | apply WRowsIn.there | apply WRowsIn.thereS)) _ (by omega))) rfl) ?_
  refine VL.r (.inl rfl) rfl (by decide) (yr_move rfl rfl) ?_
  refine VL.c (.inl rfl) rfl (by decide) (yc_callf rfl known52_MeshM (.cons rfl (.cons rfl .nil)) (by apply Pick.one; apply Rem.there; apply Rem.thereS; exact Rem.here) (c_markV (by omega) (by omega) (by omega))) ?_
  rintro ⟨⟩
  refine VL.r (.inl rfl) rfl (by decide) (yr_assign rfl rfl) ?_
  refine VL.nil ?_
  refine VE.then_wp ?_
  refine V.seq ?_
  refine V.region ?_
  refine VL.r (.inl rfl) rfl (by decide) (yr_move rfl rfl) ?_
  refine VL.r (.inl rfl) rfl (by decide) (yr_assign rfl rfl) ?_
  refine VL.nil ?_
  refine VE.then_wp ?_
  refine V.ret ?_
  refine ret1 rfl rfl (fun w1 hw => ?_)
  exact ⟨(), rfl, hw.rot.sub (List.sublist_cons_self _ _)⟩

theorem c_heldMesh {w : World} {f1 f2 f3 st : Nat} {wi hi de : Int} {a : Option Addr} {c n : Nat} {k0 : Int} (hA : Cl w a (fl (marks k0 (n * 3)))) (h0 : 0 ≤ k0) (hk0 : k0 ≤ 100000000) (hn : n ≤ 1050000) : Pure Try.prog 17 [.agg #[.float .f32 f1, .float .f32 f2, .float .f32 f3, .float .f32 st, .int .i64 wi, .int .i64 hi, .int .i64 de, .slice a n c], .int .i64 k0] w (.int .i64 (k0 + ((n * 3 : Nat) : Int))) := by
  refine Pure.enter Try.func17 rfl Try.ntmps17 (Nat.le_of_ble_eq_true rfl) ?_
  refine V.seq ?_
  refine V.region ?_
  refine VL.new1 (.inl rfl) rfl (by decide) (yn_box rfl rfl (.inr ⟨rfl, rfl⟩)) ?_
  intro b2
  refine VL.r (.inl rfl) rfl (by decide) (yr_assign (u := .int .i64 0) rfl rfl) ?_
  refine VL.nil ?_
  refine VE.then_wp ?_
  refine V.seq ?_
  refine V.region ?_
  refine VL.r (.inl rfl) rfl (by decide) (yr_fieldAddr rfl Try.underlying30 rfl rfl sz28_MeshM (by decide) rfl) ?_
  refine VL.q (.inl rfl) rfl (by decide) (yq_load rfl fb28_MeshM rfl (by first | exact Sees.root (by assumption) | exact Sees.own (by repeat (first | exact List.mem_cons_self | exact List.mem_append_left _ (by assumption) | apply List.mem_cons_of_mem | apply List.mem_append_right)) | exact Sees.root (hR _ (by omega)) | exact Sees.own (RowsIn.mem (by repeat (first | exact RowsIn.here | exact RowsIn.last | apply RowsIn.there | apply RowsIn.thereS)) _ (by omega)) | exact Sees.own (WRowsIn.mem (by repeat (first | exact WRowsIn.here | exact WRowsIn.last | apply WRowsIn.there | apply WRowsIn.thereS)) _ (by omega))) rfl) ?_
  refine VL.r (.inl rfl) rfl (by decide) (yr_move rfl rfl) ?_
  refine VL.q (.inl rfl) rfl (by decide) (yq_callf rfl known53_MeshM (.cons rfl (.cons rfl .nil)) (fun w hw => (c_heldV (by first | exact Sees.root (by assumption) w hw | exact Sees.own (by repeat (first | exact List.mem_cons_self | exact List.mem_append_left _ (by assumption) | apply List.mem_cons_of_mem | apply List.mem_append_right)) w hw) (by omega) (by omega) (by omega)))) ?_
  refine VL.r (.inl rfl) rfl (by decide) (yr_assign rfl rfl) ?_
  refine VL.nil ?_
  refine VE.then_wp ?_
  refine V.seq ?_
  refine V.seq ?_
  refine V.region ?_
  refine VL.r (.inl rfl) rfl (by decide) (yr_move rfl rfl) ?_
  refine VL.r (.inl rfl) rfl (by decide) (yr_icmp rfl (.inr (.inr (.inl rfl))) rfl rfl) ?_
  refine VL.nil ?_
  refine VE.then_wp ?_
  refine V.cond rfl (fun h1 => ?_) (fun h1 => ?_)
  · skip
    replace h1 := ic_lss h1
    refine V.seq ?_
    refine V.region ?_
    refine VL.r (.inl rfl) rfl (by decide) (yr_assign (u := .int .i64 (-1)) rfl rfl) ?_
    refine VL.nil ?_
    refine VE.then_wp ?_
    refine V.ret ?_
    refine VE.then_ret ?_
    refine ret1 rfl rfl (fun w1 hw => ?_)
    exfalso; omega
  · skip
    replace h1 := ic_lss' h1
    refine V.skip ?_
    refine VE.then_wp ?_
    refine V.seq ?_
    refine V.region ?_
    refine VL.r (.inl rfl) rfl (by decide) (yr_move rfl rfl) ?_
    refine VL.r (.inl rfl) rfl (by decide) (yr_assign rfl rfl) ?_
    refine VL.nil ?_
    refine VE.then_wp ?_
    refine V.ret ?_
    refine ret1 rfl rfl (fun w1 hw => ?_)
    exact ⟨rfl, hw.below⟩

end Go.Proofs.Ytnommdpgmoljcaa


namespace Go.Proofs.Ytnommdpgmoljcaa
open Go.RowKit
set_option linter.unusedVariables false
set_option linter.unusedSimpArgs false
set_option maxRecDepth 20000

theorem known18_Un : Known Try.prog 18 := Known.mk' Try.func18 (by kernel_rfl)
theorem zero30_Un : (Try.prog.info? 30).bind (·.zero) = some (Value.agg #[Value.float .f32 0, Value.float .f32 0, Value.float .f32 0, Value.float .f32 0, Value.int .i64 0, Value.int .i64 0, Value.int .i64 0, Value.slice none 0 0]) := by kernel_rfl
theorem sz30_Un : (Try.prog.info? 30).map (·.size) = some 8 := by kernel_rfl
theorem known19_Un : Known Try.prog 19 := Known.mk' Try.func19 (by kernel_rfl)
theorem known13_Un : Known Try.prog 13 := Known.mk' Try.func13 (by kernel_rfl)
theorem known16_Un : Known Try.prog 16 := Known.mk' Try.func16 (by kernel_rfl)
theorem known17_Un : Known Try.prog 17 := Known.mk' Try.func17 (by kernel_rfl)
attribute [local irreducible] fop fcmp fconv fneg fabs List.getD unOk unG unS unI unR

theorem law_UnpackMesh {w : World} {s : ByteArray} : Pure Try.prog 4 [.string s] w (.bool true) := by
  refine Pure.enter Try.func4 rfl Try.ntmps4 (Nat.le_of_ble_eq_true rfl) ?_
  have hS1 := cans_unR (s := s)
  have hS2 : Can3 ((unG s).1, (unG s).2.1, (unG s).2.2) := can_unG
  have hS3 : Can .f32 (unS s) := can_unS
  have hSl := unR_length (s := s)
  refine V.seq ?_
  refine V.region ?_
  refine VL.r (.inl rfl) rfl (by decide) (yr_assign (u := .bool false) rfl rfl) ?_
  refine VL.nil ?_
  refine VE.then_wp ?_
  refine V.seq ?_
  refine V.seq ?_
  refine V.region ?_
  refine VL.r (.inl rfl) rfl (by decide) (yr_move rfl rfl) ?_
  refine VL.r (.inl rfl) rfl (by decide) (yr_lenString rfl Try.underlying9 rfl) ?_
  refine VL.r (.inl rfl) rfl (by decide) (yr_icmp rfl (.inr (.inr (.inr (.inr (.inl rfl))))) rfl rfl) ?_
  refine VL.nil ?_
  refine VE.then_wp ?_
  refine V.cond rfl (fun h1 => ?_) (fun h1 => ?_)
  · skip
    replace h1 := ic_gtr h1
    refine V.seq ?_
    refine V.region ?_
    refine VL.r (.inl rfl) rfl (by decide) (yr_assign (u := .bool true) rfl rfl) ?_
    refine VL.nil ?_
    refine VE.then_wp ?_
    refine V.ret ?_
    refine VE.then_ret ?_
    refine ret1 rfl rfl (fun w1 hw => ?_)
    exact ⟨rfl, hw.below⟩
  · skip
    replace h1 := ic_gtr' h1
    refine V.skip ?_
    refine VE.then_wp ?_
    refine V.seq ?_
    refine V.region ?_
    refine VL.r (.inl rfl) rfl (by decide) (yr_move rfl rfl) ?_
    refine VL.new1 (.inl rfl) rfl (by decide) (yn_callf rfl known18_Un (.cons rfl .nil) (fun w hw => (c_specUn (by omega)))) ?_
    rintro ⟨a16, c16⟩
    refine VL.r (.inl rfl) rfl (by decide) (yr_move rfl rfl) ?_
    refine VL.r (.inl rfl) rfl (by decide) (yr_extract rfl rfl rfl (by nofun)) ?_
    refine VL.r (.inl rfl) rfl (by decide) (yr_extract rfl rfl rfl (by nofun)) ?_
    refine VL.new1 (.inl rfl) rfl (by decide) (yn_alloc rfl zero30_Un rfl) ?_
    intro b3
    refine VL.s (.inl rfl) rfl (yc_store rfl sz30_Un rfl rfl (by repeat (first | exact UpdF.here | apply UpdF.there | apply UpdF.thereS)) (.inr ⟨rfl, rfl⟩) rfl (by first | exact Nat.le_of_ble_eq_true rfl | simp) (by decide) rfl) ?_
    rintro ⟨⟩
    refine VL.r (.inl rfl) rfl (by decide) (yr_assign rfl rfl) ?_
    refine VL.nil ?_
    refine VE.then_wp ?_
    refine V.seq ?_
    refine V.region ?_
    refine VL.r (.inl rfl) rfl (by decide) (yr_move rfl rfl) ?_
    refine VL.new1 (.inl rfl) rfl (by decide) (yn_callf rfl known19_Un (.cons rfl .nil) (fun w hw => (c_implUn (by omega)))) ?_
    rintro ⟨a21, c21⟩
    refine VL.r (.inl rfl) rfl (by decide) (yr_move rfl rfl) ?_
    refine VL.r (.inl rfl) rfl (by decide) (yr_extract rfl rfl rfl (by nofun)) ?_
    refine VL.r (.inl rfl) rfl (by decide) (yr_extract rfl rfl rfl (by nofun)) ?_
    refine VL.new1 (.inl rfl) rfl (by decide) (yn_alloc rfl zero30_Un rfl) ?_
    intro b5
    refine VL.s (.inl rfl) rfl (yc_store rfl sz30_Un rfl rfl (by repeat (first | exact UpdF.here | apply UpdF.there | apply UpdF.thereS)) (.inr ⟨rfl, rfl⟩) rfl (by first | exact Nat.le_of_ble_eq_true rfl | simp) (by decide) rfl) ?_
    rintro ⟨⟩
    refine VL.r (.inl rfl) rfl (by decide) (yr_assign rfl rfl) ?_
    refine VL.nil ?_
    refine VE.then_wp ?_
    refine V.seq ?_
    refine V.seq ?_
    refine V.region ?_
    refine VL.q (.inl rfl) rfl (by decide) (yq_loadS rfl Try.underlying30 sz30_Un rfl (by first | exact Sees.root (by assumption) | exact Sees.own (by repeat (first | exact List.mem_cons_self | exact List.mem_append_left _ (by assumption) | apply List.mem_cons_of_mem | apply List.mem_append_right)) | exact Sees.root (hR _ (by omega)) | exact Sees.own (RowsIn.mem (by repeat (first | exact RowsIn.here | exact RowsIn.last | apply RowsIn.there | apply RowsIn.thereS)) _ (by omega)) | exact Sees.own (WRowsIn.mem (by repeat (first | exact WRowsIn.here | exact WRowsIn.last | apply WRowsIn.there | apply WRowsIn.thereS)) _ (by omega))) rfl rfl rfl) ?_
    refine VL.q (.inl rfl) rfl (by decide) (yq_loadS rfl Try.underlying30 sz30_Un rfl (by first | exact Sees.root (by assumption) | exact Sees.own (by repeat (first | exact List.mem_cons_self | exact List.mem_append_left _ (by assumption) | apply List.mem_cons_of_mem | apply List.mem_append_right)) | exact Sees.root (hR _ (by omega)) | exact Sees.own (RowsIn.mem (by repeat (first | exact RowsIn.here | exact RowsIn.last | apply RowsIn.there | apply RowsIn.thereS)) _ (by omega)) | exact Sees.own (WRowsIn.mem (by repeat (first | exact WRowsIn.here | exact WRowsIn.last | apply WRowsIn.there | apply WRowsIn.thereS)) _ (by omega))) rfl rfl rfl) ?_
    refine VL.q (.inl rfl) rfl (by decide) (yq_callf rfl known13_Un (.cons rfl (.cons rfl .nil)) (fun w hw => (c_eqMesh (by first | exact Sees.root (by assumption) w hw | exact Sees.own (by repeat (first | exact List.mem_cons_self | exact List.mem_append_left _ (by assumption) | apply List.mem_cons_of_mem | apply List.mem_append_right)) w hw) (by first | exact Sees.root (by assumption) w hw | exact Sees.own (by repeat (first | exact List.mem_cons_self | exact List.mem_append_left _ (by assumption) | apply List.mem_cons_of_mem | apply List.mem_append_right)) w hw) (by assumption) (by assumption) (by assumption) (by assumption) (by assumption) (by assumption) (by omega)))) ?_
    refine VL.r (.inl rfl) rfl (by decide) (yr_not rfl rfl) ?_
    refine VL.r (.inl rfl) rfl (by decide) (yr_move rfl rfl) ?_
    refine VX.split 28 _ rfl (fun h2 => ?_) (fun h2 => ?_)
    · skip
      replace h2 := bnot_t h2
      first | (exfalso; omega) | (simp [bcmp] at h2; done)
    · skip
      replace h2 := bnot_f h2
      refine VL.r (.inr ⟨_, _, _, rfl, rfl, rfl⟩) rfl (by decide) (yr_move rfl rfl) ?_
      refine VL.r (.inr ⟨_, _, _, rfl, rfl, rfl⟩) rfl (by decide) (yr_move rfl rfl) ?_
      refine VL.r (.inr ⟨_, _, _, rfl, rfl, rfl⟩) rfl (by decide) (yr_bcmp rfl Try.underlying4 rfl rfl (.inr rfl)) ?_
      refine VL.r (.inl rfl) rfl (by decide) (yr_pick_f rfl rfl rfl) ?_
      refine VL.nil ?_
      refine VE.then_wp ?_
      refine V.cond rfl (fun h3 => ?_) (fun h3 => ?_)
      · skip
        first | (exfalso; omega) | (simp [bcmp] at h3; done)
      · skip
        refine V.skip ?_
        refine VE.then_wp ?_
        refine V.seq ?_
        refine V.region ?_
        refine VL.r (.inl rfl) rfl (by decide) (yr_assign (u := .int .i64 1) rfl rfl) ?_
        refine VL.nil ?_
        refine VE.then_wp ?_
        refine V.seq ?_
        refine V.region ?_
        refine VL.q (.inl rfl) rfl (by decide) (yq_loadS rfl Try.underlying30 sz30_Un rfl (by first | exact Sees.root (by assumption) | exact Sees.own (by repeat (first | exact List.mem_cons_self | exact List.mem_append_left _ (by assumption) | apply List.mem_cons_of_mem | apply List.mem_append_right)) | exact Sees.root (hR _ (by omega)) | exact Sees.own (RowsIn.mem (by repeat (first | exact RowsIn.here | exact RowsIn.last | apply RowsIn.there | apply RowsIn.thereS)) _ (by omega)) | exact Sees.own (WRowsIn.mem (by repeat (first | exact WRowsIn.here | exact WRowsIn.last | apply WRowsIn.there | apply WRowsIn.thereS)) _ (by omega))) rfl rfl rfl) ?_
        refine VL.r (.inl rfl) rfl (by decide) (yr_move rfl rfl) ?_
        refine VL.c (.inl rfl) rfl (by decide) (yc_callf rfl known16_Un (.cons rfl (.cons rfl .nil)) (by apply Pick.one; repeat (first | exact Rem.here | apply Rem.there | apply Rem.thereS)) (c_markMesh (by omega) (by omega) (by omega))) ?_
        rintro ⟨⟩
        refine VL.r (.inl rfl) rfl (by decide) (yr_assign rfl rfl) ?_
        refine VL.nil ?_
        refine VE.then_wp ?_
        refine V.seq ?_
        refine V.region ?_
        refine VL.r (.inl rfl) rfl (by decide) (yr_assign (u := .int .i64 1) rfl rfl) ?_
        refine VL.nil ?_
        refine VE.then_wp ?_
        refine V.seq ?_
        refine V.region ?_
        refine VL.q (.inl rfl) rfl (by decide) (yq_loadS rfl Try.underlying30 sz30_Un rfl (by first | exact Sees.root (by assumption) | exact Sees.own (by repeat (first | exact List.mem_cons_self | exact List.mem_append_left _ (by assumption) | apply List.mem_cons_of_mem | apply List.mem_append_right)) | exact Sees.root (hR _ (by omega)) | exact Sees.own (RowsIn.mem (by repeat (first | exact RowsIn.here | exact RowsIn.last | apply RowsIn.there | apply RowsIn.thereS)) _ (by omega)) | exact Sees.own (WRowsIn.mem (by repeat (first | exact WRowsIn.here | exact WRowsIn.last | apply WRowsIn.there | apply WRowsIn.thereS)) _ (by omega))) rfl rfl rfl) ?_
        refine VL.r (.inl rfl) rfl (by decide) (yr_move rfl rfl) ?_
        refine VL.q (.inl rfl) rfl (by decide) (yq_callf rfl known17_Un (.cons rfl (.cons rfl .nil)) (fun w hw => (c_heldMesh (by first | exact Sees.root (by assumption) w hw | exact Sees.own (by repeat (first | exact List.mem_cons_self | exact List.mem_append_left _ (by assumption) | apply List.mem_cons_of_mem | apply List.mem_append_right)) w hw) (by omega) (by omega) (by omega)))) ?_
        refine VL.r (.inl rfl) rfl (by decide) (yr_assign rfl rfl) ?_
        refine VL.nil ?_
        refine VE.then_wp ?_
        refine V.seq ?_
        refine V.seq ?_
        refine V.region ?_
        refine VL.r (.inl rfl) rfl (by decide) (yr_move rfl rfl) ?_
        refine VL.r (.inl rfl) rfl (by decide) (yr_icmp rfl (.inr (.inr (.inl rfl))) rfl rfl) ?_
        refine VL.nil ?_
        refine VE.then_wp ?_
        refine V.cond rfl (fun h4 => ?_) (fun h4 => ?_)
        · skip
          replace h4 := ic_lss h4
          first | (exfalso; omega) | (simp [bcmp] at h4; done)
        · skip
          replace h4 := ic_lss' h4
          refine V.skip ?_
          refine VE.then_wp ?_
          refine V.seq ?_
          refine V.seq ?_
          refine V.region ?_
          refine VL.r (.inl rfl) rfl (by decide) (yr_move rfl rfl) ?_
          refine VL.r (.inl rfl) rfl (by decide) (yr_move rfl rfl) ?_
          refine VL.r (.inl rfl) rfl (by decide) (yr_icmp rfl (.inr (.inl rfl)) rfl rfl) ?_
          refine VL.nil ?_
          refine VE.then_wp ?_
          refine V.cond rfl (fun h5 => ?_) (fun h5 => ?_)
          · skip
            replace h5 := ic_neq h5
            first | (exfalso; omega) | (simp [bcmp] at h5; done)
          · skip
            replace h5 := ic_neq' h5
            refine V.skip ?_
            refine VE.then_wp ?_
            refine V.seq ?_
            refine V.region ?_
            refine VL.r (.inl rfl) rfl (by decide) (yr_move rfl rfl) ?_
            refine VL.new1 (.inl rfl) rfl (by decide) (yn_callf rfl known19_Un (.cons rfl .nil) (fun w hw => (c_implUn (by omega)))) ?_
            rintro ⟨a46, c46⟩
            refine VL.r (.inl rfl) rfl (by decide) (yr_move rfl rfl) ?_
            refine VL.r (.inl rfl) rfl (by decide) (yr_extract rfl rfl rfl (by nofun)) ?_
            refine VL.r (.inl rfl) rfl (by decide) (yr_extract rfl rfl rfl (by nofun)) ?_
            refine VL.new1 (.inl rfl) rfl (by decide) (yn_alloc rfl zero30_Un rfl) ?_
            intro b9
            refine VL.s (.inl rfl) rfl (yc_store rfl sz30_Un rfl rfl (by repeat (first | exact UpdF.here | apply UpdF.there | apply UpdF.thereS)) (.inr ⟨rfl, rfl⟩) rfl (by first | exact Nat.le_of_ble_eq_true rfl | simp) (by decide) rfl) ?_
            rintro ⟨⟩
            refine VL.r (.inl rfl) rfl (by decide) (yr_assign rfl rfl) ?_
            refine VL.nil ?_
            refine VE.then_wp ?_
            refine V.seq ?_
            refine V.seq ?_
            refine V.region ?_
            refine VL.q (.inl rfl) rfl (by decide) (yq_loadS rfl Try.underlying30 sz30_Un rfl (by first | exact Sees.root (by assumption) | exact Sees.own (by repeat (first | exact List.mem_cons_self | exact List.mem_append_left _ (by assumption) | apply List.mem_cons_of_mem | apply List.mem_append_right)) | exact Sees.root (hR _ (by omega)) | exact Sees.own (RowsIn.mem (by repeat (first | exact RowsIn.here | exact RowsIn.last | apply RowsIn.there | apply RowsIn.thereS)) _ (by omega)) | exact Sees.own (WRowsIn.mem (by repeat (first | exact WRowsIn.here | exact WRowsIn.last | apply WRowsIn.there | apply WRowsIn.thereS)) _ (by omega))) rfl rfl rfl) ?_
            refine VL.q (.inl rfl) rfl (by decide) (yq_loadS rfl Try.underlying30 sz30_Un rfl (by first | exact Sees.root (by assumption) | exact Sees.own (by repeat (first | exact List.mem_cons_self | exact List.mem_append_left _ (by assumption) | apply List.mem_cons_of_mem | apply List.mem_append_right)) | exact Sees.root (hR _ (by omega)) | exact Sees.own (RowsIn.mem (by repeat (first | exact RowsIn.here | exact RowsIn.last | apply RowsIn.there | apply RowsIn.thereS)) _ (by omega)) | exact Sees.own (WRowsIn.mem (by repeat (first | exact WRowsIn.here | exact WRowsIn.last | apply WRowsIn.there | apply WRowsIn.thereS)) _ (by omega))) rfl rfl rfl) ?_
            refine VL.q (.inl rfl) rfl (by decide) (yq_callf rfl known13_Un (.cons rfl (.cons rfl .nil)) (fun w hw => (c_eqMesh (by first | exact Sees.root (by assumption) w hw | exact Sees.own (by repeat (first | exact List.mem_cons_self | exact List.mem_append_left _ (by assumption) | apply List.mem_cons_of_mem | apply List.mem_append_right)) w hw) (by first | exact Sees.root (by assumption) w hw | exact Sees.own (by repeat (first | exact List.mem_cons_self | exact List.mem_append_left _ (by assumption) | apply List.mem_cons_of_mem | apply List.mem_append_right)) w hw) (by assumption) (by assumption) (by assumption) (by assumption) (by assumption) (by assumption) (by omega)))) ?_
            refine VL.r (.inl rfl) rfl (by decide) (yr_not rfl rfl) ?_
            refine VL.r (.inl rfl) rfl (by decide) (yr_move rfl rfl) ?_
            refine VX.split 53 _ rfl (fun h6 => ?_) (fun h6 => ?_)
            · skip
              replace h6 := bnot_t h6
              first | (exfalso; omega) | (simp [bcmp] at h6; done)
            · skip
              replace h6 := bnot_f h6
              refine VL.r (.inr ⟨_, _, _, rfl, rfl, rfl⟩) rfl (by decide) (yr_move rfl rfl) ?_
              refine VL.r (.inr ⟨_, _, _, rfl, rfl, rfl⟩) rfl (by decide) (yr_move rfl rfl) ?_
              refine VL.r (.inr ⟨_, _, _, rfl, rfl, rfl⟩) rfl (by decide) (yr_bcmp rfl Try.underlying4 rfl rfl (.inr rfl)) ?_
              refine VL.r (.inl rfl) rfl (by decide) (yr_pick_f rfl rfl rfl) ?_
              refine VL.nil ?_
              refine VE.then_wp ?_
              refine V.cond rfl (fun h7 => ?_) (fun h7 => ?_)
              · skip
                first | (exfalso; omega) | (simp [bcmp] at h7; done)
              · skip
                refine V.skip ?_
                refine VE.then_wp ?_
                refine V.seq ?_
                refine V.region ?_
                refine VL.r (.inl rfl) rfl (by decide) (yr_assign (u := .int .i64 1) rfl rfl) ?_
                refine VL.nil ?_
                refine VE.then_wp ?_
                refine V.seq ?_
                refine V.region ?_
                refine VL.q (.inl rfl) rfl (by decide) (yq_loadS rfl Try.underlying30 sz30_Un rfl (by first | exact Sees.root (by assumption) | exact Sees.own (by repeat (first | exact List.mem_cons_self | exact List.mem_append_left _ (by assumption) | apply List.mem_cons_of_mem | apply List.mem_append_right)) | exact Sees.root (hR _ (by omega)) | exact Sees.own (RowsIn.mem (by repeat (first | exact RowsIn.here | exact RowsIn.last | apply RowsIn.there | apply RowsIn.thereS)) _ (by omega)) | exact Sees.own (WRowsIn.mem (by repeat (first | exact WRowsIn.here | exact WRowsIn.last | apply WRowsIn.there | apply WRowsIn.thereS)) _ (by omega))) rfl rfl rfl) ?_
                refine VL.r (.inl rfl) rfl (by decide) (yr_move rfl rfl) ?_
                refine VL.q (.inl rfl) rfl (by decide) (yq_callf rfl known17_Un (.cons rfl (.cons rfl .nil)) (fun w hw => (c_heldMesh (by first | exact Sees.root (by assumption) w hw | exact Sees.own (by repeat (first | exact List.mem_cons_self | exact List.mem_append_left _ (by assumption) | apply List.mem_cons_of_mem | apply List.mem_append_right)) w hw) (by omega) (by omega) (by omega)))) ?_
                refine VL.r (.inl rfl) rfl (by decide) (yr_assign rfl rfl) ?_
                refine VL.nil ?_
                refine VE.then_wp ?_
                refine V.seq ?_
                refine V.seq ?_
                refine V.region ?_
                refine VL.r (.inl rfl) rfl (by decide) (yr_move rfl rfl) ?_
                refine VL.r (.inl rfl) rfl (by decide) (yr_icmp rfl (.inr (.inr (.inl rfl))) rfl rfl) ?_
                refine VL.nil ?_
                refine VE.then_wp ?_
                refine V.cond rfl (fun h8 => ?_) (fun h8 => ?_)
                · skip
                  replace h8 := ic_lss h8
                  first | (exfalso; omega) | (simp [bcmp] at h8; done)
                · skip
                  replace h8 := ic_lss' h8
                  refine V.skip ?_
                  refine VE.then_wp ?_
                  refine V.seq ?_
                  refine V.seq ?_
                  refine V.region ?_
                  refine VL.r (.inl rfl) rfl (by decide) (yr_move rfl rfl) ?_
                  refine VL.r (.inl rfl) rfl (by decide) (yr_move rfl rfl) ?_
                  refine VL.r (.inl rfl) rfl (by decide) (yr_icmp rfl (.inr (.inl rfl)) rfl rfl) ?_
                  refine VL.nil ?_
                  refine VE.then_wp ?_
                  refine V.cond rfl (fun h9 => ?_) (fun h9 => ?_)
                  · skip
                    replace h9 := ic_neq h9
                    first | (exfalso; omega) | (simp [bcmp] at h9; done)
                  · skip
                    replace h9 := ic_neq' h9
                    refine V.skip ?_
                    refine VE.then_wp ?_
                    refine V.seq ?_
                    refine V.region ?_
                    refine VL.r (.inl rfl) rfl (by decide) (yr_assign (u := .bool true) rfl rfl) ?_
                    refine VL.nil ?_
                    refine VE.then_wp ?_
                    refine V.ret ?_
                    refine ret1 rfl rfl (fun w1 hw => ?_)
                    exact ⟨rfl, hw.below⟩

end Go.Proofs.Ytnommdpgmoljcaa

