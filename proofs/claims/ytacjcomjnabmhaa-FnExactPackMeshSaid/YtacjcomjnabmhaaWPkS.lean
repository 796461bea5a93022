/- Walks: PkS. Printed by gen.py. -/
import Derived.Test.YtacjcomjnabmhaaWPkA
import Derived.KernelRfl
namespace Go.Proofs.Ytacjcomjnabmhaa
open Go.RowKit
set_option linter.unusedVariables false
set_option linter.unusedSimpArgs false
set_option maxRecDepth 20000

theorem known151_PkS : Known Try.prog 151 := Known.mk' Try.func151 (by kernel_rfl)
theorem elt5_PkS : Elt Try.prog 5 [Value.int .u8 0] 1 := Elt.mk' (by kernel_rfl) (by decide)
theorem mixed_PkS : Try.prog.follows .mixedOrders = true := by kernel_rfl
theorem sz2_PkS : (Try.prog.info? 2).map (·.size) = some 1 := by kernel_rfl
theorem fb2_PkS : flatB Try.prog 2 = true := by kernel_rfl
theorem sz32_PkS : (Try.prog.info? 32).map (·.size) = some 3 := by kernel_rfl
theorem known153_PkS : Known Try.prog 153 := Known.mk' Try.func153 (by kernel_rfl)
theorem known152_PkS : Known Try.prog 152 := Known.mk' Try.func152 (by kernel_rfl)
theorem sz22_PkS : (Try.prog.info? 22).map (·.size) = some 1 := by kernel_rfl
theorem fb22_PkS : flatB Try.prog 22 = true := by kernel_rfl
theorem sz33_PkS : (Try.prog.info? 33).map (·.size) = some 1 := by kernel_rfl
theorem fb33_PkS : flatB Try.prog 33 = true := by kernel_rfl
theorem ext154_PkS : ExtF Try.prog 154 (Extern.MathFloor.toIntegral "math.RoundToEven" .even) := ⟨_, Try.func154, by kernel_rfl, by kernel_rfl, by kernel_rfl, by kernel_rfl⟩
attribute [local irreducible] fop fcmp fconv fneg fabs List.getD scN num part3 fround qI qz scU allF topK hdr

theorem c_specPack {w : World} {q : Option Addr} {f1 f2 f3 st : Nat} {wi hi de : Int} {a : Option Addr} {c : Nat} {vs : List V3} (hQ : Cl w q [.float .f32 f1, .float .f32 f2, .float .f32 f3, .float .f32 st, .int .i64 wi, .int .i64 hi, .int .i64 de, .slice a vs.length c]) (hA : Cl w a (vl vs)) (hX : Cans3 vs) (hf : Can3 (f1, f2, f3)) (hst : Can .f32 st) (hn : vs.length ≤ 1000) : Pure Try.prog 74 [.pointer (some (adr q 0))] w (.tuple #[.string (if allF vs (vs.length * 3) then stb (pkL (f1, f2, f3) st wi hi de vs) else ⟨#[]⟩), .bool (allF vs (vs.length * 3))]) := by
  refine Pure.enter Try.func74 rfl Try.ntmps74 (Nat.le_of_ble_eq_true rfl) ?_
  refine V.seq ?_
  refine V.region ?_
  refine VL.r (.inl rfl) rfl (by decide) (yr_assign rfl rfl) ?_
  refine VL.r (.inl rfl) rfl (by decide) (yr_assign (u := .bool false) rfl rfl) ?_
  refine VL.nil ?_
  refine VE.then_wp ?_
  refine V.seq ?_
  refine V.region ?_
  refine VL.r (.inl rfl) rfl (by decide) (yr_move rfl rfl) ?_
  refine VL.q (.inl rfl) rfl (by decide) (yq_callf rfl known151_PkS (.cons rfl .nil) (fun w hw => (c_scale (by first | exact Sees.root (by assumption) w hw | exact Sees.own (by repeat (first | exact List.mem_cons_self | exact List.mem_append_left _ (by assumption) | apply List.mem_cons_of_mem | apply List.mem_append_right)) w hw) (by first | exact Sees.root (by assumption) w hw | exact Sees.own (by repeat (first | exact List.mem_cons_self | exact List.mem_append_left _ (by assumption) | apply List.mem_cons_of_mem | apply List.mem_append_right)) w hw) hX (by omega)))) ?_
  refine VL.r (.inl rfl) rfl (by decide) (yr_move rfl rfl) ?_
  refine VL.r (.inl rfl) rfl (by decide) (yr_extract rfl rfl rfl (by nofun)) ?_
  refine VL.r (.inl rfl) rfl (by decide) (yr_extract rfl rfl rfl (by nofun)) ?_
  refine VL.r (.inl rfl) rfl (by decide) (yr_assign rfl rfl) ?_
  refine VL.r (.inl rfl) rfl (by decide) (yr_assign rfl rfl) ?_
  refine VL.nil ?_
  refine VE.then_wp ?_
  refine V.seq ?_
  refine V.seq ?_
  refine V.region ?_
  refine VL.r (.inl rfl) rfl (by decide) (yr_move rfl rfl) ?_
  refine VL.r (.inl rfl) rfl (by decide) (yr_not rfl rfl) ?_
  refine VL.nil ?_
  refine VE.then_wp ?_
  refine V.cond rfl (fun h1 => ?_) (fun h1 => ?_)
  · skip
    replace h1 := bnot_t h1
    refine V.seq ?_
    refine V.region ?_
    refine VL.r (.inl rfl) rfl (by decide) (yr_assign rfl rfl) ?_
    refine VL.r (.inl rfl) rfl (by decide) (yr_assign (u := .bool false) rfl rfl) ?_
    refine VL.nil ?_
    refine VE.then_wp ?_
    refine V.ret ?_
    refine VE.then_ret ?_
    refine ret2 rfl rfl rfl (by nofun) (by nofun) (fun w1 hw => ?_)
    first
      | (have h8 : allF vs (vs.length * 3) = false := by assumption
         exact ⟨by rw [h8]; rfl, hw.below⟩)
      | (obtain rfl : i = vs.length := by omega
         exact ⟨by rw [hall]; rfl, hw.below⟩)
  · skip
    replace h1 := bnot_f h1
    have hall : allF vs (vs.length * 3) = true := h1
    rw [if_pos hall]
    refine V.skip ?_
    refine VE.then_wp ?_
    refine V.seq ?_
    refine V.region ?_
    refine VL.new1 (.inl rfl) rfl (by decide) (yn_lit rfl Try.underlying169 elt5_PkS rfl (by decide) (.cons rfl (.cons rfl (.cons rfl (.cons rfl .nil)))) (by first | (simp; done) | (simp [cn, cn1, cn0]; done)) rfl rfl rfl) ?_
    intro b19
    refine VL.c (.inl rfl) rfl (by decide) (yc_own8 rfl Try.underlying169 Try.underlying5 rfl (by repeat (first | exact List.mem_cons_self | apply List.mem_cons_of_mem)) (by decide)) ?_
    rintro ⟨⟩
    refine VL.r (.inl rfl) rfl (by decide) (yr_assign rfl rfl) ?_
    refine VL.nil ?_
    refine VE.then_wp ?_
    refine V.seq ?_
    refine Dr.V.drawR [(0, 5), (1, 5), (2, 5), (3, 5), (4, 5), (5, 5), (6, 5), (7, 5), (8, 5), (9, 5), (10, 5), (11, 5), (12, 5), (13, 5), (14, 5), (15, 5), (16, 1), (17, 3), (18, 5)] [] [⟨some ⟨b19, 0, none⟩, bl [77, 83, 72, 49], 4 * 1, 5⟩] [] mixed_PkS (by kernel_rfl) (fun w hw => hw) ?_
    refine Dr.SW.r rfl (.inl rfl) rfl (by decide) (yr_move rfl rfl) ?_
    refine Dr.SW.r rfl (.inl rfl) rfl (by decide) (yr_move rfl rfl) ?_
    refine Dr.SW.r rfl (.inl rfl) rfl (by decide) (yr_nilCheck rfl rfl) ?_
    refine Dr.SW.r rfl (.inl rfl) rfl (by decide) (yr_fieldAddr rfl Try.underlying35 rfl rfl sz2_PkS (by decide) rfl) ?_
    refine Dr.SW.p rfl (.inl rfl) rfl (by decide) (yq_load rfl fb2_PkS rfl (by first | exact Sees.root (by assumption) | exact Sees.own (by (try simp only [List.append_assoc, List.cons_append, List.nil_append]); repeat (first | exact List.mem_cons_self | exact List.mem_append_left _ (by assumption) | apply List.mem_cons_of_mem | apply List.mem_append_right)) | exact Sees.root (hR _ (by omega)) | exact Sees.own (RowsIn.mem (by (try simp only [List.append_assoc, List.cons_append, List.nil_append]); repeat (first | exact RowsIn.here | exact RowsIn.last | apply RowsIn.there | apply RowsIn.thereS)) _ (by omega)) | exact Sees.own (WRowsIn.mem (by (try simp only [List.append_assoc, List.cons_append, List.nil_append]); repeat (first | exact WRowsIn.here | exact WRowsIn.last | apply WRowsIn.there | apply WRowsIn.thereS)) _ (by omega))) rfl) ?_
    refine Dr.SW.r rfl (.inl rfl) rfl (by decide) (yr_intConv (r := w8 _) rfl Try.underlying2 Try.underlying5 rfl rfl) ?_
    refine Dr.SW.r rfl (.inl rfl) rfl (by decide) (yr_move rfl rfl) ?_
    refine Dr.SW.r rfl (.inl rfl) rfl (by decide) (yr_nilCheck rfl rfl) ?_
    refine Dr.SW.r rfl (.inl rfl) rfl (by decide) (yr_fieldAddr rfl Try.underlying35 rfl rfl sz2_PkS (by decide) rfl) ?_
    refine Dr.SW.p rfl (.inl rfl) rfl (by decide) (yq_load rfl fb2_PkS rfl (by first | exact Sees.root (by assumption) | exact Sees.own (by (try simp only [List.append_assoc, List.cons_append, List.nil_append]); repeat (first | exact List.mem_cons_self | exact List.mem_append_left _ (by assumption) | apply List.mem_cons_of_mem | apply List.mem_append_right)) | exact Sees.root (hR _ (by omega)) | exact Sees.own (RowsIn.mem (by (try simp only [List.append_assoc, List.cons_append, List.nil_append]); repeat (first | exact RowsIn.here | exact RowsIn.last | apply RowsIn.there | apply RowsIn.thereS)) _ (by omega)) | exact Sees.own (WRowsIn.mem (by (try simp only [List.append_assoc, List.cons_append, List.nil_append]); repeat (first | exact WRowsIn.here | exact WRowsIn.last | apply WRowsIn.there | apply WRowsIn.thereS)) _ (by omega))) rfl) ?_
    refine Dr.SW.r rfl (.inl rfl) rfl (by decide) (yr_intConv (r := w8 _) rfl Try.underlying2 Try.underlying5 rfl rfl) ?_
    refine Dr.SW.r rfl (.inl rfl) rfl (by decide) (yr_move rfl rfl) ?_
    refine Dr.SW.r rfl (.inl rfl) rfl (by decide) (yr_nilCheck rfl rfl) ?_
    refine Dr.SW.r rfl (.inl rfl) rfl (by decide) (yr_fieldAddr rfl Try.underlying35 rfl rfl sz2_PkS (by decide) rfl) ?_
    refine Dr.SW.p rfl (.inl rfl) rfl (by decide) (yq_load rfl fb2_PkS rfl (by first | exact Sees.root (by assumption) | exact Sees.own (by (try simp only [List.append_assoc, List.cons_append, List.nil_append]); repeat (first | exact List.mem_cons_self | exact List.mem_append_left _ (by assumption) | apply List.mem_cons_of_mem | apply List.mem_append_right)) | exact Sees.root (hR _ (by omega)) | exact Sees.own (RowsIn.mem (by (try simp only [List.append_assoc, List.cons_append, List.nil_append]); repeat (first | exact RowsIn.here | exact RowsIn.last | apply RowsIn.there | apply RowsIn.thereS)) _ (by omega)) | exact Sees.own (WRowsIn.mem (by (try simp only [List.append_assoc, List.cons_append, List.nil_append]); repeat (first | exact WRowsIn.here | exact WRowsIn.last | apply WRowsIn.there | apply WRowsIn.thereS)) _ (by omega))) rfl) ?_
    refine Dr.SW.r rfl (.inl rfl) rfl (by decide) (yr_intConv (r := w8 _) rfl Try.underlying2 Try.underlying5 rfl rfl) ?_
    refine Dr.SW.new1 rfl (.inl rfl) rfl (by decide) (yn_lit rfl Try.underlying169 elt5_PkS rfl (by decide) (.cons rfl (.cons rfl (.cons rfl .nil))) (by first | (simp; done) | (simp [cn, cn1, cn0]; done)) rfl rfl rfl) ?_
    intro b37
    refine Dr.SW.c rfl (.inl rfl) rfl (by decide) (yc_appendz 1 rfl rfl Try.underlying169 elt5_PkS rfl rfl (Dr.UpdF.app (by repeat (first | exact UpdF.here | apply UpdF.there | apply UpdF.thereS))) (by first | exact Sees.root (by assumption) | exact Sees.own (by (try simp only [List.append_assoc, List.cons_append, List.nil_append]); repeat (first | exact List.mem_cons_self | exact List.mem_append_left _ (by assumption) | apply List.mem_cons_of_mem | apply List.mem_append_right)) | exact Sees.root (hR _ (by omega)) | exact Sees.own (RowsIn.mem (by (try simp only [List.append_assoc, List.cons_append, List.nil_append]); repeat (first | exact RowsIn.here | exact RowsIn.last | apply RowsIn.there | apply RowsIn.thereS)) _ (by omega)) | exact Sees.own (WRowsIn.mem (by (try simp only [List.append_assoc, List.cons_append, List.nil_append]); repeat (first | exact WRowsIn.here | exact WRowsIn.last | apply WRowsIn.there | apply WRowsIn.thereS)) _ (by omega))) rfl (by first | rfl | (rw [bl_length, Nat.mul_one]) | (simp only [List.length_append, bl_length, Nat.mul_one]; done) | (simp only [List.length_append, bl_length, Nat.mul_one]; rfl)) (by first | rfl | exact bl_length _) (by first | rfl | exact bl_scal _ | (rw [bl_append]; exact bl_scal _)) (by first | rfl | exact bl_scal _) (by first | omega | (rw [bd_len]; omega) | (have := topK_le (f := (f1, f2, f3)) (st := st) (s := (scU vs (vs.length * 3))) (wi := wi) (hi := hi) (de := de) (k := k) (by omega); omega)) (by first | omega | (rw [bd_len]; omega) | (have := topK_le (f := (f1, f2, f3)) (st := st) (s := (scU vs (vs.length * 3))) (wi := wi) (hi := hi) (de := de) (k := k) (by omega); omega))) ?_
    rintro ⟨a38, c38⟩
    refine Dr.SW.r rfl (.inl rfl) rfl (by decide) (yr_assign rfl rfl) ?_
    refine Dr.SW.done ?_
    refine Dr.eqO (by simp only [List.append_nil, List.append_assoc, List.cons_append, List.nil_append] <;> rfl) ?_
    refine VE.then_wp ?_
    refine V.seq ?_
    refine V.seq ?_
    refine V.region ?_
    refine VL.r (.inl rfl) rfl (by decide) (yr_assign (u := .int .i64 0) rfl rfl) ?_
    refine VL.nil ?_
    refine VE.then_wp ?_
    refine V.block ?_
    refine V.loopc (G := Nat × (Option Addr) × Nat) [(0, _), (4, _)] (fun ⟨k, ar, cr⟩ => k ≤ 3 ∧ True) (fun ⟨k, ar, cr⟩ => [⟨ar, bl (hdr wi hi de ++ topK (f1, f2, f3) st (scU vs (vs.length * 3)) (k)), cr * 1, 5⟩]) (fun ⟨k, ar, cr⟩ => [(6, .slice ar (hdr wi hi de ++ topK (f1, f2, f3) st (scU vs (vs.length * 3)) (k)).length cr), (7, .int .i64 (k : Int))]) (fun ⟨k, ar, cr⟩ => 3 - k) (0, a38, c38) (.cons rfl (.cons rfl .nil)) (.cons (congrArg (fun n => some (Value.slice _ n _)) (by rw [topK_0]; rfl)) (.cons rfl .nil)) ?_ ?_ ?_
    · exact (fun w hw => by dsimp only; rw [topK_0]; exact hw.pick (by apply Pick.one; repeat (first | exact Rem.here | apply Rem.there)))
    · exact (by exact ⟨Nat.zero_le _, trivial⟩)
    rintro ⟨k, ar, cr⟩ ⟨hk, _⟩
    show V _ _ _ [⟨ar, bl (hdr wi hi de ++ topK (f1, f2, f3) st (scU vs (vs.length * 3)) (k)), cr * 1, 5⟩] ([(6, .slice ar (hdr wi hi de ++ topK (f1, f2, f3) st (scU vs (vs.length * 3)) (k)).length cr), (7, .int .i64 (k : Int))] ++ [(0, _), (4, _)]) _ _
    refine V.seq ?_
    refine V.seq ?_
    refine V.region ?_
    refine VL.r (.inl rfl) rfl (by decide) (yr_move rfl rfl) ?_
    refine VL.r (.inl rfl) rfl (by decide) (yr_icmp rfl (.inr (.inr (.inl rfl))) rfl rfl) ?_
    refine VL.nil ?_
    refine VE.then_wp ?_
    refine V.cond rfl (fun h2 => ?_) (fun h2 => ?_)
    · skip
      replace h2 := ic_lss h2
      refine V.skip ?_
      refine VE.then_wp ?_
      refine V.seq ?_
      refine V.block ?_
      refine V.region ?_
      refine VL.r (.inl rfl) rfl (by decide) (yr_move rfl rfl) ?_
      refine VL.r (.inl rfl) rfl (by decide) (yr_move rfl rfl) ?_
      refine VL.r (.inl rfl) rfl (by decide) (yr_nilCheck rfl rfl) ?_
      refine VL.r (.inl rfl) rfl (by decide) (yr_fieldAddr rfl Try.underlying35 rfl rfl sz32_PkS (by decide) rfl) ?_
      refine VL.q (.inl rfl) rfl (by decide) (yq_loadS rfl Try.underlying32 sz32_PkS rfl (by first | exact Sees.root (by assumption) | exact Sees.own (by repeat (first | exact List.mem_cons_self | exact List.mem_append_left _ (by assumption) | apply List.mem_cons_of_mem | apply List.mem_append_right)) | exact Sees.root (hR _ (by omega)) | exact Sees.own (RowsIn.mem (by repeat (first | exact RowsIn.here | exact RowsIn.last | apply RowsIn.there | apply RowsIn.thereS)) _ (by omega)) | exact Sees.own (WRowsIn.mem (by repeat (first | exact WRowsIn.here | exact WRowsIn.last | apply WRowsIn.there | apply WRowsIn.thereS)) _ (by omega))) rfl rfl rfl) ?_
      refine VL.r (.inl rfl) rfl (by decide) (yr_move rfl rfl) ?_
      refine VL.q (.inl rfl) rfl (by decide) (yq_callf rfl known153_PkS (.cons rfl (.cons rfl .nil)) (fun w hw => (c_part (j := k) (by omega)))) ?_
      refine VL.new1 (.inl rfl) rfl (by decide) (yn_callf rfl known152_PkS (.cons rfl .nil) (fun w hw => (c_four (can_part hf)))) ?_
      intro b50
      refine VL.c (.inl rfl) rfl (by decide) (yc_appendz 1 rfl rfl Try.underlying169 elt5_PkS rfl rfl (by repeat (first | exact UpdF.here | apply UpdF.there | apply UpdF.thereS)) (by first | exact Sees.root (by assumption) | exact Sees.own (by repeat (first | exact List.mem_cons_self | exact List.mem_append_left _ (by assumption) | apply List.mem_cons_of_mem | apply List.mem_append_right)) | exact Sees.root (hR _ (by omega)) | exact Sees.own (RowsIn.mem (by repeat (first | exact RowsIn.here | exact RowsIn.last | apply RowsIn.there | apply RowsIn.thereS)) _ (by omega)) | exact Sees.own (WRowsIn.mem (by repeat (first | exact WRowsIn.here | exact WRowsIn.last | apply WRowsIn.there | apply WRowsIn.thereS)) _ (by omega))) rfl (by first | rfl | (rw [bl_length, Nat.mul_one]) | (simp only [List.length_append, bl_length, Nat.mul_one]; done) | (simp only [List.length_append, bl_length, Nat.mul_one]; rfl)) (by first | rfl | exact bl_length _) (by first | rfl | exact bl_scal _ | (rw [bl_append]; exact bl_scal _)) (by first | rfl | exact bl_scal _) (by first | omega | (rw [bd_len]; omega) | (have := topK_le (f := (f1, f2, f3)) (st := st) (s := (scU vs (vs.length * 3))) (wi := wi) (hi := hi) (de := de) (k := k) (by omega); omega)) (by first | omega | (rw [bd_len]; omega) | (have := topK_le (f := (f1, f2, f3)) (st := st) (s := (scU vs (vs.length * 3))) (wi := wi) (hi := hi) (de := de) (k := k) (by omega); omega))) ?_
      rintro ⟨a51, c51⟩
      refine VL.r (.inl rfl) rfl (by decide) (yr_assign rfl rfl) ?_
      refine VL.nil ?_
      refine VE.block_normal ?_
      refine VE.then_wp ?_
      refine V.region ?_
      refine VL.r (.inl rfl) rfl (by decide) (yr_move rfl rfl) ?_
      refine VL.r (.inl rfl) rfl (by decide) (yr_int rfl rfl rfl (.inl ⟨rfl, wrap_in (by omega)⟩)) ?_
      refine VL.r (.inl rfl) rfl (by decide) (yr_assign rfl rfl) ?_
      refine VL.nil ?_
      refine VE.round (k + 1, a51, c51) ?_ ?_ ?_ ?_ ?_
      · exact (.cons (congrArg (fun n => some (Value.slice _ n _)) (by rw [topK_succ (by omega), ← List.append_assoc, List.length_append (bs := four _)]; rfl)) (.cons rfl .nil))
      · exact (.cons rfl (.cons rfl .nil))
      · exact (fun w hw => by dsimp only; rw [topK_succ (by omega), ← part_top (by omega), ← List.append_assoc, ← bl_append]; exact hw.pick (by apply Pick.one; repeat (first | exact Rem.here | apply Rem.there)))
      · exact ⟨by omega, trivial⟩
      · (try dsimp only); omega
    · skip
      replace h2 := ic_lss' h2
      refine V.exit ?_
      refine VE.then_exit ?_
      refine VE.then_exit ?_
      refine VE.block_here ?_
      refine VE.then_wp ?_
      refine V.seq ?_
      refine V.region ?_
      refine VL.r (.inl rfl) rfl (by decide) (yr_move rfl rfl) ?_
      refine VL.r (.inl rfl) rfl (by decide) (yr_move rfl rfl) ?_
      refine VL.r (.inl rfl) rfl (by decide) (yr_nilCheck rfl rfl) ?_
      refine VL.r (.inl rfl) rfl (by decide) (yr_fieldAddr rfl Try.underlying35 rfl rfl sz22_PkS (by decide) rfl) ?_
      refine VL.q (.inl rfl) rfl (by decide) (yq_load rfl fb22_PkS rfl (by first | exact Sees.root (by assumption) | exact Sees.own (by repeat (first | exact List.mem_cons_self | exact List.mem_append_left _ (by assumption) | apply List.mem_cons_of_mem | apply List.mem_append_right)) | exact Sees.root (hR _ (by omega)) | exact Sees.own (RowsIn.mem (by repeat (first | exact RowsIn.here | exact RowsIn.last | apply RowsIn.there | apply RowsIn.thereS)) _ (by omega)) | exact Sees.own (WRowsIn.mem (by repeat (first | exact WRowsIn.here | exact WRowsIn.last | apply WRowsIn.there | apply WRowsIn.thereS)) _ (by omega))) rfl) ?_
      refine VL.new1 (.inl rfl) rfl (by decide) (yn_callf rfl known152_PkS (.cons rfl .nil) (fun w hw => (c_four hst))) ?_
      intro b57
      refine VL.c (.inl rfl) rfl (by decide) (yc_appendz 1 rfl rfl Try.underlying169 elt5_PkS rfl rfl (by repeat (first | exact UpdF.here | apply UpdF.there | apply UpdF.thereS)) (by first | exact Sees.root (by assumption) | exact Sees.own (by repeat (first | exact List.mem_cons_self | exact List.mem_append_left _ (by assumption) | apply List.mem_cons_of_mem | apply List.mem_append_right)) | exact Sees.root (hR _ (by omega)) | exact Sees.own (RowsIn.mem (by repeat (first | exact RowsIn.here | exact RowsIn.last | apply RowsIn.there | apply RowsIn.thereS)) _ (by omega)) | exact Sees.own (WRowsIn.mem (by repeat (first | exact WRowsIn.here | exact WRowsIn.last | apply WRowsIn.there | apply WRowsIn.thereS)) _ (by omega))) rfl (by first | rfl | (rw [bl_length, Nat.mul_one]) | (simp only [List.length_append, bl_length, Nat.mul_one]; done) | (simp only [List.length_append, bl_length, Nat.mul_one]; rfl)) (by first | rfl | exact bl_length _) (by first | rfl | exact bl_scal _ | (rw [bl_append]; exact bl_scal _)) (by first | rfl | exact bl_scal _) (by first | omega | (rw [bd_len]; omega) | (have := topK_le (f := (f1, f2, f3)) (st := st) (s := (scU vs (vs.length * 3))) (wi := wi) (hi := hi) (de := de) (k := k) (by omega); omega)) (by first | omega | (rw [bd_len]; omega) | (have := topK_le (f := (f1, f2, f3)) (st := st) (s := (scU vs (vs.length * 3))) (wi := wi) (hi := hi) (de := de) (k := k) (by omega); omega))) ?_
      rintro ⟨a58, c58⟩
      refine VL.r (.inl rfl) rfl (by decide) (yr_assign rfl rfl) ?_
      refine VL.nil ?_
      refine VE.then_wp ?_
      refine V.seq ?_
      refine V.region ?_
      refine VL.r (.inl rfl) rfl (by decide) (yr_move rfl rfl) ?_
      refine VL.r (.inl rfl) rfl (by decide) (yr_move rfl rfl) ?_
      refine VL.new1 (.inl rfl) rfl (by decide) (yn_callf rfl known152_PkS (.cons rfl .nil) (fun w hw => (c_four (can_scU _)))) ?_
      intro b61
      refine VL.c (.inl rfl) rfl (by decide) (yc_appendz 1 rfl rfl Try.underlying169 elt5_PkS rfl rfl (by repeat (first | exact UpdF.here | apply UpdF.there | apply UpdF.thereS)) (by first | exact Sees.root (by assumption) | exact Sees.own (by repeat (first | exact List.mem_cons_self | exact List.mem_append_left _ (by assumption) | apply List.mem_cons_of_mem | apply List.mem_append_right)) | exact Sees.root (hR _ (by omega)) | exact Sees.own (RowsIn.mem (by repeat (first | exact RowsIn.here | exact RowsIn.last | apply RowsIn.there | apply RowsIn.thereS)) _ (by omega)) | exact Sees.own (WRowsIn.mem (by repeat (first | exact WRowsIn.here | exact WRowsIn.last | apply WRowsIn.there | apply WRowsIn.thereS)) _ (by omega))) rfl (by first | rfl | (rw [bl_length, Nat.mul_one]) | (simp only [List.length_append, bl_length, Nat.mul_one]; done) | (simp only [List.length_append, bl_length, Nat.mul_one]; rfl)) (by first | rfl | exact bl_length _) (by first | rfl | exact bl_scal _ | (rw [bl_append]; exact bl_scal _)) (by first | rfl | exact bl_scal _) (by first | omega | (rw [bd_len]; omega) | (have := topK_le (f := (f1, f2, f3)) (st := st) (s := (scU vs (vs.length * 3))) (wi := wi) (hi := hi) (de := de) (k := k) (by omega); omega)) (by first | omega | (rw [bd_len]; omega) | (have := topK_le (f := (f1, f2, f3)) (st := st) (s := (scU vs (vs.length * 3))) (wi := wi) (hi := hi) (de := de) (k := k) (by omega); omega))) ?_
      rintro ⟨a62, c62⟩
      refine VL.r (.inl rfl) rfl (by decide) (yr_assign rfl rfl) ?_
      refine VL.nil ?_
      refine VE.then_wp ?_
      refine V.seq ?_
      refine V.seq ?_
      refine V.region ?_
      refine VL.r (.inl rfl) rfl (by decide) (yr_assign (u := .int .i64 0) rfl rfl) ?_
      refine VL.nil ?_
      refine VE.then_wp ?_
      refine V.block ?_
      refine V.loopc (G := Nat × (Option Addr) × Nat) [(0, _), (4, _)] (fun ⟨i, ar1, cr1⟩ => i ≤ vs.length ∧ True) (fun ⟨i, ar1, cr1⟩ => [⟨ar1, bl (topL (f1, f2, f3) st wi hi de (scU vs (vs.length * 3)) ++ bodyU vs (scU vs (vs.length * 3)) (i * 3)), cr1 * 1, 5⟩]) (fun ⟨i, ar1, cr1⟩ => [(6, .slice ar1 (topL (f1, f2, f3) st wi hi de (scU vs (vs.length * 3)) ++ bodyU vs (scU vs (vs.length * 3)) (i * 3)).length cr1), (8, .int .i64 (i : Int))]) (fun ⟨i, ar1, cr1⟩ => vs.length - i) (0, a62, c62) (.cons rfl (.cons rfl .nil)) (.cons (congrArg (fun n => some (Value.slice _ n _)) (by rw [Nat.zero_mul, body_0, List.append_nil, ← top3, show k = 3 by omega, List.length_append (bs := four (scU vs (vs.length * 3))), List.length_append (bs := four st)]; rfl)) (.cons rfl .nil)) ?_ ?_ ?_
      · exact (fun w hw => by
          obtain rfl : k = 3 := by omega
          dsimp only
          rw [Nat.zero_mul, body_0, List.append_nil, ← top3, ← bl_append, ← bl_append]
          exact hw.pick (by apply Pick.one; repeat (first | exact Rem.here | apply Rem.there)))
      · exact (by exact ⟨Nat.zero_le _, trivial⟩)
      rintro ⟨i, ar1, cr1⟩ ⟨hi9, _⟩
      show V _ _ _ [⟨ar1, bl (topL (f1, f2, f3) st wi hi de (scU vs (vs.length * 3)) ++ bodyU vs (scU vs (vs.length * 3)) (i * 3)), cr1 * 1, 5⟩] ([(6, .slice ar1 (topL (f1, f2, f3) st wi hi de (scU vs (vs.length * 3)) ++ bodyU vs (scU vs (vs.length * 3)) (i * 3)).length cr1), (8, .int .i64 (i : Int))] ++ [(0, _), (4, _)]) _ _
      refine V.seq ?_
      refine V.seq ?_
      refine V.region ?_
      refine VL.r (.inl rfl) rfl (by decide) (yr_move rfl rfl) ?_
      refine VL.r (.inl rfl) rfl (by decide) (yr_move rfl rfl) ?_
      refine VL.r (.inl rfl) rfl (by decide) (yr_nilCheck rfl rfl) ?_
      refine VL.r (.inl rfl) rfl (by decide) (yr_fieldAddr rfl Try.underlying35 rfl rfl sz33_PkS (by decide) rfl) ?_
      refine VL.q (.inl rfl) rfl (by decide) (yq_load rfl fb33_PkS rfl (by first | exact Sees.root (by assumption) | exact Sees.own (by repeat (first | exact List.mem_cons_self | exact List.mem_append_left _ (by assumption) | apply List.mem_cons_of_mem | apply List.mem_append_right)) | exact Sees.root (hR _ (by omega)) | exact Sees.own (RowsIn.mem (by repeat (first | exact RowsIn.here | exact RowsIn.last | apply RowsIn.there | apply RowsIn.thereS)) _ (by omega)) | exact Sees.own (WRowsIn.mem (by repeat (first | exact WRowsIn.here | exact WRowsIn.last | apply WRowsIn.there | apply WRowsIn.thereS)) _ (by omega))) rfl) ?_
      refine VL.r (.inl rfl) rfl (by decide) (yr_len rfl Try.underlying33 rfl) ?_
      refine VL.r (.inl rfl) rfl (by decide) (yr_icmp rfl (.inr (.inr (.inl rfl))) rfl rfl) ?_
      refine VL.nil ?_
      refine VE.then_wp ?_
      refine V.cond rfl (fun h3 => ?_) (fun h3 => ?_)
      · skip
        replace h3 := ic_lss h3
        refine V.skip ?_
        refine VE.then_wp ?_
        refine V.seq ?_
        refine V.block ?_
        refine V.seq ?_
        refine V.region ?_
        refine VL.r (.inl rfl) rfl (by decide) (yr_assign (u := .int .i64 0) rfl rfl) ?_
        refine VL.nil ?_
        refine VE.then_wp ?_
        refine V.block ?_
        refine V.loopc (G := Nat × (Option Addr) × Nat) [(0, _), (4, _), (8, _)] (fun ⟨j, ar2, cr2⟩ => j ≤ 3 ∧ True) (fun ⟨j, ar2, cr2⟩ => [⟨ar2, bl (topL (f1, f2, f3) st wi hi de (scU vs (vs.length * 3)) ++ bodyU vs (scU vs (vs.length * 3)) (i * 3 + j)), cr2 * 1, 5⟩]) (fun ⟨j, ar2, cr2⟩ => [(6, .slice ar2 (topL (f1, f2, f3) st wi hi de (scU vs (vs.length * 3)) ++ bodyU vs (scU vs (vs.length * 3)) (i * 3 + j)).length cr2), (9, .int .i64 (j : Int))]) (fun ⟨j, ar2, cr2⟩ => 3 - j) (0, ar1, cr1) (.cons rfl (.cons rfl (.cons rfl .nil))) (.cons rfl (.cons rfl .nil)) ?_ ?_ ?_
        · exact (fun w hw => hw)
        · exact (by exact ⟨Nat.zero_le _, trivial⟩)
        rintro ⟨j, ar2, cr2⟩ ⟨hj, _⟩
        show V _ _ _ [⟨ar2, bl (topL (f1, f2, f3) st wi hi de (scU vs (vs.length * 3)) ++ bodyU vs (scU vs (vs.length * 3)) (i * 3 + j)), cr2 * 1, 5⟩] ([(6, .slice ar2 (topL (f1, f2, f3) st wi hi de (scU vs (vs.length * 3)) ++ bodyU vs (scU vs (vs.length * 3)) (i * 3 + j)).length cr2), (9, .int .i64 (j : Int))] ++ [(0, _), (4, _), (8, _)]) _ _
        refine V.seq ?_
        refine V.seq ?_
        refine V.region ?_
        refine VL.r (.inl rfl) rfl (by decide) (yr_move rfl rfl) ?_
        refine VL.r (.inl rfl) rfl (by decide) (yr_icmp rfl (.inr (.inr (.inl rfl))) rfl rfl) ?_
        refine VL.nil ?_
        refine VE.then_wp ?_
        refine V.cond rfl (fun h4 => ?_) (fun h4 => ?_)
        · skip
          replace h4 := ic_lss h4
          refine V.skip ?_
          refine VE.then_wp ?_
          refine V.seq ?_
          refine V.block ?_
          refine V.seq ?_
          refine V.region ?_
          refine VL.r (.inl rfl) rfl (by decide) (yr_assign (u := .int .i64 0) rfl rfl) ?_
          refine VL.nil ?_
          refine VE.then_wp ?_
          refine V.seq ?_
          refine V.seq ?_
          refine V.region ?_
          refine VL.r (.inl rfl) rfl (by decide) (yr_move rfl rfl) ?_
          refine VL.r (.inl rfl) rfl (by decide) (yr_fcmp (b := 0) rfl (.inr (.inr (.inr (.inr (.inl rfl))))) rfl rfl) ?_
          refine VL.nil ?_
          refine VE.then_wp ?_
          refine V.cond rfl (fun h5 => ?_) (fun h5 => ?_)
          · skip
            refine V.seq ?_
            refine V.region ?_
            refine VL.r (.inl rfl) rfl (by decide) (yr_move rfl rfl) ?_
            refine VL.r (.inl rfl) rfl (by decide) (yr_nilCheck rfl rfl) ?_
            refine VL.r (.inl rfl) rfl (by decide) (yr_fieldAddr rfl Try.underlying35 rfl rfl sz33_PkS (by decide) rfl) ?_
            refine VL.q (.inl rfl) rfl (by decide) (yq_load rfl fb33_PkS rfl (by first | exact Sees.root (by assumption) | exact Sees.own (by repeat (first | exact List.mem_cons_self | exact List.mem_append_left _ (by assumption) | apply List.mem_cons_of_mem | apply List.mem_append_right)) | exact Sees.root (hR _ (by omega)) | exact Sees.own (RowsIn.mem (by repeat (first | exact RowsIn.here | exact RowsIn.last | apply RowsIn.there | apply RowsIn.thereS)) _ (by omega)) | exact Sees.own (WRowsIn.mem (by repeat (first | exact WRowsIn.here | exact WRowsIn.last | apply WRowsIn.there | apply WRowsIn.thereS)) _ (by omega))) rfl) ?_
            refine VL.r (.inl rfl) rfl (by decide) (yr_move rfl rfl) ?_
            refine VL.q (.inl rfl) rfl (by decide) (yq_idxN (k := i) rfl Try.underlying33 sz32_PkS rfl rfl (by first | exact Sees.root (by assumption) | exact Sees.own (by repeat (first | exact List.mem_cons_self | exact List.mem_append_left _ (by assumption) | apply List.mem_cons_of_mem | apply List.mem_append_right)) | exact Sees.root (hR _ (by omega)) | exact Sees.own (RowsIn.mem (by repeat (first | exact RowsIn.here | exact RowsIn.last | apply RowsIn.there | apply RowsIn.thereS)) _ (by omega)) | exact Sees.own (WRowsIn.mem (by repeat (first | exact WRowsIn.here | exact WRowsIn.last | apply WRowsIn.there | apply WRowsIn.thereS)) _ (by omega))) (by first | rfl | omega | (push_cast; rfl) | (push_cast; omega) | exact tmod_nat _ _) (by exact vl_length _) (by decide) (by omega)) ?_
            refine VL.q (.inl rfl) rfl (by decide) (yq_loadV rfl Try.underlying32 sz32_PkS rfl (by first | exact Sees.root (by assumption) | exact Sees.own (by repeat (first | exact List.mem_cons_self | exact List.mem_append_left _ (by assumption) | apply List.mem_cons_of_mem | apply List.mem_append_right)) | exact Sees.root (hR _ (by omega)) | exact Sees.own (RowsIn.mem (by repeat (first | exact RowsIn.here | exact RowsIn.last | apply RowsIn.there | apply RowsIn.thereS)) _ (by omega)) | exact Sees.own (WRowsIn.mem (by repeat (first | exact WRowsIn.here | exact WRowsIn.last | apply WRowsIn.there | apply WRowsIn.thereS)) _ (by omega))) (by omega)) ?_
            refine VL.r (.inl rfl) rfl (by decide) (yr_move rfl rfl) ?_
            refine VL.q (.inl rfl) rfl (by decide) (yq_callf rfl known153_PkS (.cons rfl (.cons rfl .nil)) (fun w hw => (c_part (j := j) (by omega)))) ?_
            refine VL.r (.inl rfl) rfl (by decide) (yr_fconv rfl Try.underlying22 Try.underlying87 (by decide) rfl (fover_up _)) ?_
            refine VL.r (.inl rfl) rfl (by decide) (yr_move rfl rfl) ?_
            refine VL.r (.inl rfl) rfl (by decide) (yr_fconv rfl Try.underlying22 Try.underlying87 (by decide) rfl (fover_up _)) ?_
            refine VL.r (.inl rfl) rfl (by decide) (yr_float rfl (.inr (.inr (.inr rfl))) rfl rfl) ?_
            refine VL.r (.inl rfl) rfl (by decide) (yr_assign rfl rfl) ?_
            refine VL.nil ?_
            refine VE.then_wp ?_
            refine V.region ?_
            refine VL.r (.inl rfl) rfl (by decide) (yr_move rfl rfl) ?_
            refine VL.r (.inl rfl) rfl (by decide) (yr_float (a := 4674736138332667904) rfl (.inr (.inr (.inl rfl))) rfl rfl) ?_
            refine VL.q (.inl rfl) rfl (by decide) (yq_ext rfl ext154_PkS (.cons rfl .nil) (fun vs w h => ext_round vs w h)) ?_
            refine VL.r (.inl rfl) rfl (by decide) (yr_toInt (i := qI (scU vs (vs.length * 3)) (part3 (vs.getD i z3) j)) rfl Try.underlying87 Try.underlying2 rfl (qI_isX hall (by assumption) (num_part (vs := vs) (i := i) (j := j) (by omega)) (by omega))) ?_
            refine VL.r (.inl rfl) rfl (by decide) (yr_assign rfl rfl) ?_
            refine VL.nil ?_
            refine VE.then_wp ?_
            refine V.region ?_
            refine VL.r (.inl rfl) rfl (by decide) (yr_move rfl rfl) ?_
            refine VL.r (.inl rfl) rfl (by decide) (yr_move rfl rfl) ?_
            refine VL.r (.inl rfl) rfl (by decide) (yr_bits rfl rfl rfl (.inl ⟨rfl, and255 _⟩)) ?_
            refine VL.r (.inl rfl) rfl (by decide) (yr_intConv (r := w8 _) rfl Try.underlying2 Try.underlying5 rfl (w8_255 _)) ?_
            refine VL.r (.inl rfl) rfl (by decide) (yr_move rfl rfl) ?_
            refine VL.r (.inl rfl) rfl (by decide) (yr_shr (b := 8) rfl rfl rfl rfl) ?_
            refine VL.r (.inl rfl) rfl (by decide) (yr_bits rfl rfl rfl (.inl ⟨rfl, and255 _⟩)) ?_
            refine VL.r (.inl rfl) rfl (by decide) (yr_intConv (r := w8 _) rfl Try.underlying2 Try.underlying5 rfl (w8_255 _)) ?_
            refine VL.new1 (.inl rfl) rfl (by decide) (yn_lit rfl Try.underlying169 elt5_PkS rfl (by decide) (.cons rfl (.cons rfl .nil)) (by first | (simp; done) | (simp [cn, cn1, cn0]; done)) rfl rfl rfl) ?_
            intro b103
            refine VL.c (.inl rfl) rfl (by decide) (yc_appendz 1 rfl rfl Try.underlying169 elt5_PkS rfl rfl (by repeat (first | exact UpdF.here | apply UpdF.there | apply UpdF.thereS)) (by first | exact Sees.root (by assumption) | exact Sees.own (by repeat (first | exact List.mem_cons_self | exact List.mem_append_left _ (by assumption) | apply List.mem_cons_of_mem | apply List.mem_append_right)) | exact Sees.root (hR _ (by omega)) | exact Sees.own (RowsIn.mem (by repeat (first | exact RowsIn.here | exact RowsIn.last | apply RowsIn.there | apply RowsIn.thereS)) _ (by omega)) | exact Sees.own (WRowsIn.mem (by repeat (first | exact WRowsIn.here | exact WRowsIn.last | apply WRowsIn.there | apply WRowsIn.thereS)) _ (by omega))) rfl (by first | rfl | (rw [bl_length, Nat.mul_one]) | (simp only [List.length_append, bl_length, Nat.mul_one]; done) | (simp only [List.length_append, bl_length, Nat.mul_one]; rfl)) (by first | rfl | exact bl_length _) (by first | rfl | exact bl_scal _ | (rw [bl_append]; exact bl_scal _)) (by first | rfl | exact bl_scal _) (by first | omega | (rw [bd_len]; omega) | (have := topK_le (f := (f1, f2, f3)) (st := st) (s := (scU vs (vs.length * 3))) (wi := wi) (hi := hi) (de := de) (k := k) (by omega); omega)) (by first | omega | (rw [bd_len]; omega) | (have := topK_le (f := (f1, f2, f3)) (st := st) (s := (scU vs (vs.length * 3))) (wi := wi) (hi := hi) (de := de) (k := k) (by omega); omega))) ?_
            rintro ⟨a104, c104⟩
            refine VL.r (.inl rfl) rfl (by decide) (yr_assign rfl rfl) ?_
            refine VL.nil ?_
            refine VE.block_normal ?_
            refine VE.then_wp ?_
            refine V.region ?_
            refine VL.r (.inl rfl) rfl (by decide) (yr_move rfl rfl) ?_
            refine VL.r (.inl rfl) rfl (by decide) (yr_int rfl rfl rfl (.inl ⟨rfl, wrap_in (by omega)⟩)) ?_
            refine VL.r (.inl rfl) rfl (by decide) (yr_assign rfl rfl) ?_
            refine VL.nil ?_
            refine VE.round (j + 1, a104, c104) ?_ ?_ ?_ ?_ ?_
            · exact (.cons (congrArg (fun n => some (Value.slice _ n _)) (by rw [← Nat.add_assoc, bodyU, ← List.append_assoc, List.length_append (bs := [_, _])]; rfl)) (.cons rfl .nil))
            · exact (.cons rfl (.cons rfl (.cons rfl .nil)))
            · exact (fun w hw => by
                have h9 := hw.sub (List.sublist_cons_self _ _)
                dsimp only
                rw [← Nat.add_assoc, ← body_s (num_part (vs := vs) (i := i) (j := j) (by omega)) (q := _) (q2 := _) (by first | exact qz_y (by assumption) | exact qz_n (by assumption)) rfl]
                exact h9)
            · exact ⟨by omega, trivial⟩
            · (try dsimp only); omega
          · skip
            refine V.skip ?_
            refine VE.then_wp ?_
            refine V.region ?_
            refine VL.r (.inl rfl) rfl (by decide) (yr_move rfl rfl) ?_
            refine VL.r (.inl rfl) rfl (by decide) (yr_move rfl rfl) ?_
            refine VL.r (.inl rfl) rfl (by decide) (yr_bits rfl rfl rfl (.inl ⟨rfl, and255 _⟩)) ?_
            refine VL.r (.inl rfl) rfl (by decide) (yr_intConv (r := w8 _) rfl Try.underlying2 Try.underlying5 rfl (w8_255 _)) ?_
            refine VL.r (.inl rfl) rfl (by decide) (yr_move rfl rfl) ?_
            refine VL.r (.inl rfl) rfl (by decide) (yr_shr (b := 8) rfl rfl rfl rfl) ?_
            refine VL.r (.inl rfl) rfl (by decide) (yr_bits rfl rfl rfl (.inl ⟨rfl, and255 _⟩)) ?_
            refine VL.r (.inl rfl) rfl (by decide) (yr_intConv (r := w8 _) rfl Try.underlying2 Try.underlying5 rfl (w8_255 _)) ?_
            refine VL.new1 (.inl rfl) rfl (by decide) (yn_lit rfl Try.underlying169 elt5_PkS rfl (by decide) (.cons rfl (.cons rfl .nil)) (by first | (simp; done) | (simp [cn, cn1, cn0]; done)) rfl rfl rfl) ?_
            intro b103
            refine VL.c (.inl rfl) rfl (by decide) (yc_appendz 1 rfl rfl Try.underlying169 elt5_PkS rfl rfl (by repeat (first | exact UpdF.here | apply UpdF.there | apply UpdF.thereS)) (by first | exact Sees.root (by assumption) | exact Sees.own (by repeat (first | exact List.mem_cons_self | exact List.mem_append_left _ (by assumption) | apply List.mem_cons_of_mem | apply List.mem_append_right)) | exact Sees.root (hR _ (by omega)) | exact Sees.own (RowsIn.mem (by repeat (first | exact RowsIn.here | exact RowsIn.last | apply RowsIn.there | apply RowsIn.thereS)) _ (by omega)) | exact Sees.own (WRowsIn.mem (by repeat (first | exact WRowsIn.here | exact WRowsIn.last | apply WRowsIn.there | apply WRowsIn.thereS)) _ (by omega))) rfl (by first | rfl | (rw [bl_length, Nat.mul_one]) | (simp only [List.length_append, bl_length, Nat.mul_one]; done) | (simp only [List.length_append, bl_length, Nat.mul_one]; rfl)) (by first | rfl | exact bl_length _) (by first | rfl | exact bl_scal _ | (rw [bl_append]; exact bl_scal _)) (by first | rfl | exact bl_scal _) (by first | omega | (rw [bd_len]; omega) | (have := topK_le (f := (f1, f2, f3)) (st := st) (s := (scU vs (vs.length * 3))) (wi := wi) (hi := hi) (de := de) (k := k) (by omega); omega)) (by first | omega | (rw [bd_len]; omega) | (have := topK_le (f := (f1, f2, f3)) (st := st) (s := (scU vs (vs.length * 3))) (wi := wi) (hi := hi) (de := de) (k := k) (by omega); omega))) ?_
            rintro ⟨a104, c104⟩
            refine VL.r (.inl rfl) rfl (by decide) (yr_assign rfl rfl) ?_
            refine VL.nil ?_
            refine VE.block_normal ?_
            refine VE.then_wp ?_
            refine V.region ?_
            refine VL.r (.inl rfl) rfl (by decide) (yr_move rfl rfl) ?_
            refine VL.r (.inl rfl) rfl (by decide) (yr_int rfl rfl rfl (.inl ⟨rfl, wrap_in (by omega)⟩)) ?_
            refine VL.r (.inl rfl) rfl (by decide) (yr_assign rfl rfl) ?_
            refine VL.nil ?_
            refine VE.round (j + 1, a104, c104) ?_ ?_ ?_ ?_ ?_
            · exact (.cons (congrArg (fun n => some (Value.slice _ n _)) (by rw [← Nat.add_assoc, bodyU, ← List.append_assoc, List.length_append (bs := [_, _])]; rfl)) (.cons rfl .nil))
            · exact (.cons rfl (.cons rfl (.cons rfl .nil)))
            · exact (fun w hw => by
                have h9 := hw.sub (List.sublist_cons_self _ _)
                dsimp only
                rw [← Nat.add_assoc, ← body_s (num_part (vs := vs) (i := i) (j := j) (by omega)) (q := _) (q2 := _) (by first | exact qz_y (by assumption) | exact qz_n (by assumption)) rfl]
                exact h9)
            · exact ⟨by omega, trivial⟩
            · (try dsimp only); omega
        · skip
          replace h4 := ic_lss' h4
          refine V.exit ?_
          refine VE.then_exit ?_
          refine VE.then_exit ?_
          refine VE.block_here ?_
          refine VE.block_normal ?_
          refine VE.then_wp ?_
          refine V.region ?_
          refine VL.r (.inl rfl) rfl (by decide) (yr_move rfl rfl) ?_
          refine VL.r (.inl rfl) rfl (by decide) (yr_int rfl rfl rfl (.inl ⟨rfl, wrap_in (by omega)⟩)) ?_
          refine VL.r (.inl rfl) rfl (by decide) (yr_assign rfl rfl) ?_
          refine VL.nil ?_
          refine VE.round (i + 1, ar2, cr2) ?_ ?_ ?_ ?_ ?_
          · exact (.cons (congrArg (fun n => some (Value.slice _ n _)) (by rw [show (i + 1) * 3 = i * 3 + j by omega])) (.cons rfl .nil))
          · exact (.cons rfl (.cons rfl .nil))
          · exact (fun w hw => by dsimp only; rw [show (i + 1) * 3 = i * 3 + j by omega]; exact hw)
          · exact ⟨by omega, trivial⟩
          · (try dsimp only); omega
      · skip
        replace h3 := ic_lss' h3
        refine V.exit ?_
        refine VE.then_exit ?_
        refine VE.then_exit ?_
        refine VE.block_here ?_
        refine VE.then_wp ?_
        refine V.seq ?_
        refine V.region ?_
        refine VL.r (.inl rfl) rfl (by decide) (yr_move rfl rfl) ?_
        refine VL.q (.inl rfl) rfl (by decide) (yq_bts rfl Try.underlying169 Try.underlying5 Try.underlying9 rfl (by first | exact Sees.root (by assumption) | exact Sees.own (by repeat (first | exact List.mem_cons_self | exact List.mem_append_left _ (by assumption) | apply List.mem_cons_of_mem | apply List.mem_append_right)) | exact Sees.root (hR _ (by omega)) | exact Sees.own (RowsIn.mem (by repeat (first | exact RowsIn.here | exact RowsIn.last | apply RowsIn.there | apply RowsIn.thereS)) _ (by omega)) | exact Sees.own (WRowsIn.mem (by repeat (first | exact WRowsIn.here | exact WRowsIn.last | apply WRowsIn.there | apply WRowsIn.thereS)) _ (by omega))) rfl) ?_
        refine VL.r (.inl rfl) rfl (by decide) (yr_assign rfl rfl) ?_
        refine VL.r (.inl rfl) rfl (by decide) (yr_assign (u := .bool true) rfl rfl) ?_
        refine VL.nil ?_
        refine VE.then_wp ?_
        refine V.ret ?_
        refine ret2 rfl rfl rfl (by nofun) (by nofun) (fun w1 hw => ?_)
        first
          | (have h8 : allF vs (vs.length * 3) = false := by assumption
             exact ⟨by rw [h8]; rfl, hw.below⟩)
          | (obtain rfl : i = vs.length := by omega
             exact ⟨by rw [hall]; rfl, hw.below⟩)

end Go.Proofs.Ytacjcomjnabmhaa
