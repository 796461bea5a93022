/- Walks: MarkW. Printed by gen.py. -/
import Derived.Test.YtacjcomjnabmhaaWLine
import Derived.Test.YtacjcomjnabmhaaWFl
import Derived.Test.YtacjcomjnabmhaaWIn
import Derived.Test.YtacjcomjnabmhaaMarkW
import Derived.KernelRfl
namespace Go.Proofs.Ytacjcomjnabmhaa
open Go.RowKit
set_option linter.unusedVariables false
set_option linter.unusedSimpArgs false
set_option maxRecDepth 20000

theorem sz32_MarkW : (Try.prog.info? 32).map (·.size) = some 3 := by kernel_rfl
theorem sz22_MarkW : (Try.prog.info? 22).map (·.size) = some 1 := by kernel_rfl
theorem fb22_MarkW : flatB Try.prog 22 = true := by kernel_rfl
theorem sz148_MarkW : (Try.prog.info? 148).map (·.size) = some 3 := by kernel_rfl
theorem sz33_MarkW : (Try.prog.info? 33).map (·.size) = some 1 := by kernel_rfl
theorem fb33_MarkW : flatB Try.prog 33 = true := by kernel_rfl
theorem known73_MarkW : Known Try.prog 73 := Known.mk' Try.func73 (by kernel_rfl)
theorem sz4_MarkW : (Try.prog.info? 4).map (·.size) = some 1 := by kernel_rfl
attribute [local irreducible] fop fcmp fconv sqrt32 fneg segF fieldS fieldI List.getD unit3 dirV dirI midI stepV stepOk dirOk stK

theorem c_markV {w0 : World} {a : Option Addr} {c cap : Nat} {vs : List V3} {k0 : Int} (h0 : 0 ≤ k0) (hk0 : k0 ≤ 100000000) (hn : vs.length ≤ 1050000) : Mut Try.prog 73 [.slice a vs.length c, .int .i64 k0] w0 [⟨a, vl vs, cap, 32⟩] (fun _ : Unit => .int .i64 (k0 + ((vs.length * 3 : Nat) : Int))) (fun _ => [⟨a, fl (marks k0 (vs.length * 3)), cap, 32⟩]) := by
  refine Mut.enter Try.func73 rfl Try.ntmps73 (Nat.le_of_ble_eq_true rfl) ?_
  intro F
  refine V.seq ?_
  refine V.region ?_
  refine VL.r (.inl rfl) rfl (by decide) (yr_assign (u := .int .i64 0) rfl rfl) ?_
  refine VL.nil ?_
  refine VE.then_wp ?_
  refine V.seq ?_
  refine V.seq ?_
  refine V.region ?_
  refine VL.r (.inl rfl) rfl (by decide) (yr_assign (u := .int .i64 0) rfl rfl) ?_
  refine VL.nil ?_
  refine VE.then_wp ?_
  refine V.block ?_
  refine V.loopc (G := Nat × (List Nat)) [(0, _)] (fun ⟨k, ys⟩ => k ≤ vs.length ∧ ys.length = vs.length * 3 ∧ ys.take (k * 3) = marks k0 (k * 3)) (fun ⟨k, ys⟩ => (F ++ [⟨a, fl ys, cap, 32⟩])) (fun ⟨k, ys⟩ => [(1, .int .i64 (k0 + ((k * 3 : Nat) : Int))), (5, .int .i64 (k : Int))]) (fun ⟨k, ys⟩ => vs.length - k) (0, flat vs) (.cons rfl .nil) (.cons (congrArg (fun i => some (Value.int .i64 i)) (by omega)) (.cons rfl .nil)) ?_ ?_ ?_
  · exact (fun w hw => by rw [vl_flat] at hw; exact hw)
  · exact (by exact ⟨by omega, flat_length _, rfl⟩)
  rintro ⟨k, ys⟩ ⟨hk, hl, ht⟩
  show V _ _ _ (F ++ [⟨a, fl ys, cap, 32⟩]) ([(1, .int .i64 (k0 + ((k * 3 : Nat) : Int))), (5, .int .i64 (k : Int))] ++ [(0, _)]) _ _
  refine V.seq ?_
  refine V.seq ?_
  refine V.region ?_
  refine VL.r (.inl rfl) rfl (by decide) (yr_move rfl rfl) ?_
  refine VL.r (.inl rfl) rfl (by decide) (yr_move rfl rfl) ?_
  refine VL.r (.inl rfl) rfl (by decide) (yr_len rfl Try.underlying33 rfl) ?_
  refine VL.r (.inl rfl) rfl (by decide) (yr_icmp rfl (.inr (.inr (.inl rfl))) rfl rfl) ?_
  refine VL.nil ?_
  refine VE.then_wp ?_
  refine V.cond rfl (fun h1 => ?_) (fun h1 => ?_)
  · skip
    replace h1 := ic_lss h1
    refine V.skip ?_
    refine VE.then_wp ?_
    refine V.seq ?_
    refine V.block ?_
    refine V.seq ?_
    refine V.region ?_
    refine VL.r (.inl rfl) rfl (by decide) (yr_move rfl rfl) ?_
    refine VL.r (.inl rfl) rfl (by decide) (yr_move rfl rfl) ?_
    refine VL.r (.inl rfl) rfl (by decide) (yr_move rfl rfl) ?_
    refine VL.r (.inl rfl) rfl (by decide) (yr_ofInt rfl Try.underlying3 Try.underlying22 rfl) ?_
    refine VL.q (.inl rfl) rfl (by decide) (yq_idxN (k := k) rfl Try.underlying33 sz32_MarkW rfl rfl (by first | exact Sees.root (by assumption) | exact Sees.own (by repeat (first | exact List.mem_cons_self | exact List.mem_append_left _ (by assumption) | apply List.mem_cons_of_mem | apply List.mem_append_right)) | exact Sees.root (hR _ (by omega)) | exact Sees.own (RowsIn.mem (by repeat (first | exact RowsIn.here | exact RowsIn.last | apply RowsIn.there | apply RowsIn.thereS)) _ (by omega)) | exact Sees.own (WRowsIn.mem (by repeat (first | exact WRowsIn.here | exact WRowsIn.last | apply WRowsIn.there | apply WRowsIn.thereS)) _ (by omega))) (by first | rfl | omega | (push_cast; rfl) | (push_cast; omega) | exact tmod_nat _ _) (by first | (rw [fl_length]; omega) | (rw [fl_length, List.length_set]; omega) | (rw [fl_length, List.length_set, List.length_set]; omega)) (by decide) (by omega)) ?_
    refine VL.r (.inl rfl) rfl (by decide) (show YR _ _ _ (.pointer (some (adr _ (_ + 0)))) from yr_fieldAddr rfl Try.underlying32 rfl rfl sz22_MarkW (by decide) rfl) ?_
    refine VL.s (.inl rfl) rfl (yc_store rfl sz22_MarkW rfl rfl (by repeat (first | exact UpdF.here | apply UpdF.there | apply UpdF.thereS)) (.inl ⟨rfl, rfl⟩) rfl (by rw [fl_length]; (try simp only [List.length_set]); omega) (by decide) (fl_set _ _ _)) ?_
    rintro ⟨⟩
    refine VL.nil ?_
    refine VE.then_wp ?_
    refine V.seq ?_
    refine V.region ?_
    refine VL.r (.inl rfl) rfl (by decide) (yr_move rfl rfl) ?_
    refine VL.r (.inl rfl) rfl (by decide) (yr_int rfl rfl rfl (.inl ⟨rfl, wrap_in (by omega)⟩)) ?_
    refine VL.r (.inl rfl) rfl (by decide) (yr_assign rfl rfl) ?_
    refine VL.nil ?_
    refine VE.then_wp ?_
    refine V.seq ?_
    refine V.region ?_
    refine VL.r (.inl rfl) rfl (by decide) (yr_move rfl rfl) ?_
    refine VL.r (.inl rfl) rfl (by decide) (yr_move rfl rfl) ?_
    refine VL.r (.inl rfl) rfl (by decide) (yr_move rfl rfl) ?_
    refine VL.r (.inl rfl) rfl (by decide) (yr_ofInt rfl Try.underlying3 Try.underlying22 rfl) ?_
    refine VL.q (.inl rfl) rfl (by decide) (yq_idxN (k := k) rfl Try.underlying33 sz32_MarkW rfl rfl (by first | exact Sees.root (by assumption) | exact Sees.own (by repeat (first | exact List.mem_cons_self | exact List.mem_append_left _ (by assumption) | apply List.mem_cons_of_mem | apply List.mem_append_right)) | exact Sees.root (hR _ (by omega)) | exact Sees.own (RowsIn.mem (by repeat (first | exact RowsIn.here | exact RowsIn.last | apply RowsIn.there | apply RowsIn.thereS)) _ (by omega)) | exact Sees.own (WRowsIn.mem (by repeat (first | exact WRowsIn.here | exact WRowsIn.last | apply WRowsIn.there | apply WRowsIn.thereS)) _ (by omega))) (by first | rfl | omega | (push_cast; rfl) | (push_cast; omega) | exact tmod_nat _ _) (by first | (rw [fl_length]; omega) | (rw [fl_length, List.length_set]; omega) | (rw [fl_length, List.length_set, List.length_set]; omega)) (by decide) (by omega)) ?_
    refine VL.r (.inl rfl) rfl (by decide) (show YR _ _ _ (.pointer (some (adr _ (_ + 1)))) from yr_fieldAddr rfl Try.underlying32 rfl rfl sz22_MarkW (by decide) rfl) ?_
    refine VL.s (.inl rfl) rfl (yc_store rfl sz22_MarkW rfl rfl (by repeat (first | exact UpdF.here | apply UpdF.there | apply UpdF.thereS)) (.inl ⟨rfl, rfl⟩) rfl (by rw [fl_length]; (try simp only [List.length_set]); omega) (by decide) (fl_set _ _ _)) ?_
    rintro ⟨⟩
    refine VL.nil ?_
    refine VE.then_wp ?_
    refine V.seq ?_
    refine V.region ?_
    refine VL.r (.inl rfl) rfl (by decide) (yr_move rfl rfl) ?_
    refine VL.r (.inl rfl) rfl (by decide) (yr_int rfl rfl rfl (.inl ⟨rfl, wrap_in (by omega)⟩)) ?_
    refine VL.r (.inl rfl) rfl (by decide) (yr_assign rfl rfl) ?_
    refine VL.nil ?_
    refine VE.then_wp ?_
    refine V.seq ?_
    refine V.region ?_
    refine VL.r (.inl rfl) rfl (by decide) (yr_move rfl rfl) ?_
    refine VL.r (.inl rfl) rfl (by decide) (yr_move rfl rfl) ?_
    refine VL.r (.inl rfl) rfl (by decide) (yr_move rfl rfl) ?_
    refine VL.r (.inl rfl) rfl (by decide) (yr_ofInt rfl Try.underlying3 Try.underlying22 rfl) ?_
    refine VL.q (.inl rfl) rfl (by decide) (yq_idxN (k := k) rfl Try.underlying33 sz32_MarkW rfl rfl (by first | exact Sees.root (by assumption) | exact Sees.own (by repeat (first | exact List.mem_cons_self | exact List.mem_append_left _ (by assumption) | apply List.mem_cons_of_mem | apply List.mem_append_right)) | exact Sees.root (hR _ (by omega)) | exact Sees.own (RowsIn.mem (by repeat (first | exact RowsIn.here | exact RowsIn.last | apply RowsIn.there | apply RowsIn.thereS)) _ (by omega)) | exact Sees.own (WRowsIn.mem (by repeat (first | exact WRowsIn.here | exact WRowsIn.last | apply WRowsIn.there | apply WRowsIn.thereS)) _ (by omega))) (by first | rfl | omega | (push_cast; rfl) | (push_cast; omega) | exact tmod_nat _ _) (by first | (rw [fl_length]; omega) | (rw [fl_length, List.length_set]; omega) | (rw [fl_length, List.length_set, List.length_set]; omega)) (by decide) (by omega)) ?_
    refine VL.r (.inl rfl) rfl (by decide) (show YR _ _ _ (.pointer (some (adr _ (_ + 2)))) from yr_fieldAddr rfl Try.underlying32 rfl rfl sz22_MarkW (by decide) rfl) ?_
    refine VL.s (.inl rfl) rfl (yc_store rfl sz22_MarkW rfl rfl (by repeat (first | exact UpdF.here | apply UpdF.there | apply UpdF.thereS)) (.inl ⟨rfl, rfl⟩) rfl (by rw [fl_length]; (try simp only [List.length_set]); omega) (by decide) (fl_set _ _ _)) ?_
    rintro ⟨⟩
    refine VL.nil ?_
    refine VE.then_wp ?_
    refine V.region ?_
    refine VL.r (.inl rfl) rfl (by decide) (yr_move rfl rfl) ?_
    refine VL.r (.inl rfl) rfl (by decide) (yr_int rfl rfl rfl (.inl ⟨rfl, wrap_in (by omega)⟩)) ?_
    refine VL.r (.inl rfl) rfl (by decide) (yr_assign rfl rfl) ?_
    refine VL.nil ?_
    refine VE.block_normal ?_
    refine VE.then_wp ?_
    refine V.region ?_
    refine VL.r (.inl rfl) rfl (by decide) (yr_move rfl rfl) ?_
    refine VL.r (.inl rfl) rfl (by decide) (yr_int rfl rfl rfl (.inl ⟨rfl, wrap_in (by omega)⟩)) ?_
    refine VL.r (.inl rfl) rfl (by decide) (yr_assign rfl rfl) ?_
    refine VL.nil ?_
    refine VE.round (k + 1, ((ys.set (k * 3) (FloatKind.f32.nearest (k0 + ((k * 3 : Nat) : Int)))).set (k * 3 + 1) (FloatKind.f32.nearest (k0 + ((k * 3 : Nat) : Int) + 1))).set (k * 3 + 2) (FloatKind.f32.nearest (k0 + ((k * 3 : Nat) : Int) + 1 + 1))) ?_ ?_ ?_ ?_ ?_
    · exact (.cons (congrArg (fun i => some (Value.int .i64 i)) (by omega)) (.cons rfl .nil))
    · exact (.cons rfl .nil)
    · exact (fun w hw => hw)
    · exact ⟨by omega, by simp only [List.length_set]; exact hl, marks3 hl ht (by omega)⟩
    · (try dsimp only); omega
  · skip
    replace h1 := ic_lss' h1
    refine V.exit ?_
    refine VE.then_exit ?_
    refine VE.then_exit ?_
    refine VE.block_here ?_
    refine VE.then_wp ?_
    refine V.seq ?_
    refine V.region ?_
    refine VL.r (.inl rfl) rfl (by decide) (yr_move rfl rfl) ?_
    refine VL.r (.inl rfl) rfl (by decide) (yr_assign rfl rfl) ?_
    refine VL.nil ?_
    refine VE.then_wp ?_
    refine V.ret ?_
    refine ret1 rfl rfl (fun w1 hw => ?_)
    obtain rfl : k = vs.length := by omega
    rw [List.take_of_length_le (by omega)] at ht
    subst ht
    exact ⟨(), rfl, hw⟩

theorem c_heldV {w : World} {a : Option Addr} {c n : Nat} {k0 : Int} (hA : Cl w a (fl (marks k0 (n * 3)))) (h0 : 0 ≤ k0) (hk0 : k0 ≤ 100000000) (hn : n ≤ 1050000) : Pure Try.prog 129 [.slice a n c, .int .i64 k0] w (.int .i64 (k0 + ((n * 3 : Nat) : Int))) := by
  refine Pure.enter Try.func129 rfl Try.ntmps129 (Nat.le_of_ble_eq_true rfl) ?_
  refine V.seq ?_
  refine V.region ?_
  refine VL.r (.inl rfl) rfl (by decide) (yr_assign (u := .int .i64 0) rfl rfl) ?_
  refine VL.nil ?_
  refine VE.then_wp ?_
  refine V.seq ?_
  refine V.seq ?_
  refine V.region ?_
  refine VL.r (.inl rfl) rfl (by decide) (yr_assign (u := .int .i64 0) rfl rfl) ?_
  refine VL.nil ?_
  refine VE.then_wp ?_
  refine V.block ?_
  refine V.loops (G := Nat) [(0, _)] (fun (k : Nat) => k ≤ n) (fun (k : Nat) => [(1, .int .i64 (k0 + ((k * 3 : Nat) : Int))), (5, .int .i64 (k : Int))]) (fun (k : Nat) => n - k) 0 (.cons rfl .nil) (.cons (congrArg (fun i => some (Value.int .i64 i)) (by omega)) (.cons rfl .nil)) ?_ ?_
  · exact (by omega)
  rintro k hk
  show V _ _ _ _ ([(1, .int .i64 (k0 + ((k * 3 : Nat) : Int))), (5, .int .i64 (k : Int))] ++ [(0, _)]) _ _
  refine V.seq ?_
  refine V.seq ?_
  refine V.region ?_
  refine VL.r (.inl rfl) rfl (by decide) (yr_move rfl rfl) ?_
  refine VL.r (.inl rfl) rfl (by decide) (yr_move rfl rfl) ?_
  refine VL.r (.inl rfl) rfl (by decide) (yr_len rfl Try.underlying33 rfl) ?_
  refine VL.r (.inl rfl) rfl (by decide) (yr_icmp rfl (.inr (.inr (.inl rfl))) rfl rfl) ?_
  refine VL.nil ?_
  refine VE.then_wp ?_
  refine V.cond rfl (fun h1 => ?_) (fun h1 => ?_)
  · skip
    replace h1 := ic_lss h1
    refine V.skip ?_
    refine VE.then_wp ?_
    refine V.seq ?_
    refine V.block ?_
    refine V.seq ?_
    refine V.seq ?_
    refine V.region ?_
    refine VL.r (.inl rfl) rfl (by decide) (yr_move rfl rfl) ?_
    refine VL.r (.inl rfl) rfl (by decide) (yr_move rfl rfl) ?_
    refine VL.q (.inl rfl) rfl (by decide) (yq_idxN (k := k) rfl Try.underlying33 sz32_MarkW rfl rfl (by first | exact Sees.root (by assumption) | exact Sees.own (by repeat (first | exact List.mem_cons_self | exact List.mem_append_left _ (by assumption) | apply List.mem_cons_of_mem | apply List.mem_append_right)) | exact Sees.root (hR _ (by omega)) | exact Sees.own (RowsIn.mem (by repeat (first | exact RowsIn.here | exact RowsIn.last | apply RowsIn.there | apply RowsIn.thereS)) _ (by omega)) | exact Sees.own (WRowsIn.mem (by repeat (first | exact WRowsIn.here | exact WRowsIn.last | apply WRowsIn.there | apply WRowsIn.thereS)) _ (by omega))) (by first | rfl | omega | (push_cast; rfl) | (push_cast; omega) | exact tmod_nat _ _) (by rw [fl_length, marks_length]) (by decide) (by first | omega | (rw [marks_length]; omega))) ?_
    refine VL.r (.inl rfl) rfl (by decide) (show YR _ _ _ (.pointer (some (adr _ (_ + 0)))) from yr_fieldAddr rfl Try.underlying32 rfl rfl sz22_MarkW (by decide) rfl) ?_
    refine VL.q (.inl rfl) rfl (by decide) (yq_loadF rfl fb22_MarkW rfl (by first | exact Sees.root (by assumption) | exact Sees.own (by repeat (first | exact List.mem_cons_self | exact List.mem_append_left _ (by assumption) | apply List.mem_cons_of_mem | apply List.mem_append_right)) | exact Sees.root (hR _ (by omega)) | exact Sees.own (RowsIn.mem (by repeat (first | exact RowsIn.here | exact RowsIn.last | apply RowsIn.there | apply RowsIn.thereS)) _ (by omega)) | exact Sees.own (WRowsIn.mem (by repeat (first | exact WRowsIn.here | exact WRowsIn.last | apply WRowsIn.there | apply WRowsIn.thereS)) _ (by omega))) (by first | omega | (rw [marks_length]; omega))) ?_
    refine VL.r (.inl rfl) rfl (by decide) (yr_move rfl rfl) ?_
    refine VL.r (.inl rfl) rfl (by decide) (yr_ofInt rfl Try.underlying3 Try.underlying22 rfl) ?_
    refine VL.r (.inl rfl) rfl (by decide) (yr_fcmp rfl (.inr (.inl rfl)) rfl rfl) ?_
    refine VL.nil ?_
    refine VE.then_wp ?_
    refine V.cond rfl (fun h2 => ?_) (fun h2 => ?_)
    · skip
      refine V.seq ?_
      refine V.region ?_
      refine VL.r (.inl rfl) rfl (by decide) (yr_assign (u := .int .i64 (-1)) rfl rfl) ?_
      refine VL.nil ?_
      refine VE.then_wp ?_
      refine V.ret ?_
      refine VE.then_ret ?_
      refine VE.block_ret ?_
      refine VE.then_ret ?_
      refine VE.then_ret ?_
      refine VE.block_ret ?_
      refine VE.then_ret ?_
      refine ret1 rfl rfl (fun w1 hw => ?_)
      exfalso
      rw [marks_get (by omega), show k0 + ((k * 3 + 0 : Nat) : Int) = k0 + ((k * 3 : Nat) : Int) from rfl, fne_self, nearest_num] at h2
      cases h2
    · skip
      refine V.skip ?_
      refine VE.then_wp ?_
      refine V.seq ?_
      refine V.region ?_
      refine VL.r (.inl rfl) rfl (by decide) (yr_move rfl rfl) ?_
      refine VL.r (.inl rfl) rfl (by decide) (yr_int rfl rfl rfl (.inl ⟨rfl, wrap_in (by omega)⟩)) ?_
      refine VL.r (.inl rfl) rfl (by decide) (yr_assign rfl rfl) ?_
      refine VL.nil ?_
      refine VE.then_wp ?_
      refine V.seq ?_
      refine V.seq ?_
      refine V.region ?_
      refine VL.r (.inl rfl) rfl (by decide) (yr_move rfl rfl) ?_
      refine VL.r (.inl rfl) rfl (by decide) (yr_move rfl rfl) ?_
      refine VL.q (.inl rfl) rfl (by decide) (yq_idxN (k := k) rfl Try.underlying33 sz32_MarkW rfl rfl (by first | exact Sees.root (by assumption) | exact Sees.own (by repeat (first | exact List.mem_cons_self | exact List.mem_append_left _ (by assumption) | apply List.mem_cons_of_mem | apply List.mem_append_right)) | exact Sees.root (hR _ (by omega)) | exact Sees.own (RowsIn.mem (by repeat (first | exact RowsIn.here | exact RowsIn.last | apply RowsIn.there | apply RowsIn.thereS)) _ (by omega)) | exact Sees.own (WRowsIn.mem (by repeat (first | exact WRowsIn.here | exact WRowsIn.last | apply WRowsIn.there | apply WRowsIn.thereS)) _ (by omega))) (by first | rfl | omega | (push_cast; rfl) | (push_cast; omega) | exact tmod_nat _ _) (by rw [fl_length, marks_length]) (by decide) (by first | omega | (rw [marks_length]; omega))) ?_
      refine VL.r (.inl rfl) rfl (by decide) (show YR _ _ _ (.pointer (some (adr _ (_ + 1)))) from yr_fieldAddr rfl Try.underlying32 rfl rfl sz22_MarkW (by decide) rfl) ?_
      refine VL.q (.inl rfl) rfl (by decide) (yq_loadF rfl fb22_MarkW rfl (by first | exact Sees.root (by assumption) | exact Sees.own (by repeat (first | exact List.mem_cons_self | exact List.mem_append_left _ (by assumption) | apply List.mem_cons_of_mem | apply List.mem_append_right)) | exact Sees.root (hR _ (by omega)) | exact Sees.own (RowsIn.mem (by repeat (first | exact RowsIn.here | exact RowsIn.last | apply RowsIn.there | apply RowsIn.thereS)) _ (by omega)) | exact Sees.own (WRowsIn.mem (by repeat (first | exact WRowsIn.here | exact WRowsIn.last | apply WRowsIn.there | apply WRowsIn.thereS)) _ (by omega))) (by first | omega | (rw [marks_length]; omega))) ?_
      refine VL.r (.inl rfl) rfl (by decide) (yr_move rfl rfl) ?_
      refine VL.r (.inl rfl) rfl (by decide) (yr_ofInt rfl Try.underlying3 Try.underlying22 rfl) ?_
      refine VL.r (.inl rfl) rfl (by decide) (yr_fcmp rfl (.inr (.inl rfl)) rfl rfl) ?_
      refine VL.nil ?_
      refine VE.then_wp ?_
      refine V.cond rfl (fun h3 => ?_) (fun h3 => ?_)
      · skip
        refine V.seq ?_
        refine V.region ?_
        refine VL.r (.inl rfl) rfl (by decide) (yr_assign (u := .int .i64 (-1)) rfl rfl) ?_
        refine VL.nil ?_
        refine VE.then_wp ?_
        refine V.ret ?_
        refine VE.then_ret ?_
        refine VE.block_ret ?_
        refine VE.then_ret ?_
        refine VE.then_ret ?_
        refine VE.block_ret ?_
        refine VE.then_ret ?_
        refine ret1 rfl rfl (fun w1 hw => ?_)
        exfalso
        rw [marks_get (by omega), show k0 + ((k * 3 + 1 : Nat) : Int) = k0 + ((k * 3 : Nat) : Int) + 1 by omega, fne_self, nearest_num] at h3
        cases h3
      · skip
        refine V.skip ?_
        refine VE.then_wp ?_
        refine V.seq ?_
        refine V.region ?_
        refine VL.r (.inl rfl) rfl (by decide) (yr_move rfl rfl) ?_
        refine VL.r (.inl rfl) rfl (by decide) (yr_int rfl rfl rfl (.inl ⟨rfl, wrap_in (by omega)⟩)) ?_
        refine VL.r (.inl rfl) rfl (by decide) (yr_assign rfl rfl) ?_
        refine VL.nil ?_
        refine VE.then_wp ?_
        refine V.seq ?_
        refine V.seq ?_
        refine V.region ?_
        refine VL.r (.inl rfl) rfl (by decide) (yr_move rfl rfl) ?_
        refine VL.r (.inl rfl) rfl (by decide) (yr_move rfl rfl) ?_
        refine VL.q (.inl rfl) rfl (by decide) (yq_idxN (k := k) rfl Try.underlying33 sz32_MarkW rfl rfl (by first | exact Sees.root (by assumption) | exact Sees.own (by repeat (first | exact List.mem_cons_self | exact List.mem_append_left _ (by assumption) | apply List.mem_cons_of_mem | apply List.mem_append_right)) | exact Sees.root (hR _ (by omega)) | exact Sees.own (RowsIn.mem (by repeat (first | exact RowsIn.here | exact RowsIn.last | apply RowsIn.there | apply RowsIn.thereS)) _ (by omega)) | exact Sees.own (WRowsIn.mem (by repeat (first | exact WRowsIn.here | exact WRowsIn.last | apply WRowsIn.there | apply WRowsIn.thereS)) _ (by omega))) (by first | rfl | omega | (push_cast; rfl) | (push_cast; omega) | exact tmod_nat _ _) (by rw [fl_length, marks_length]) (by decide) (by first | omega | (rw [marks_length]; omega))) ?_
        refine VL.r (.inl rfl) rfl (by decide) (show YR _ _ _ (.pointer (some (adr _ (_ + 2)))) from yr_fieldAddr rfl Try.underlying32 rfl rfl sz22_MarkW (by decide) rfl) ?_
        refine VL.q (.inl rfl) rfl (by decide) (yq_loadF rfl fb22_MarkW rfl (by first | exact Sees.root (by assumption) | exact Sees.own (by repeat (first | exact List.mem_cons_self | exact List.mem_append_left _ (by assumption) | apply List.mem_cons_of_mem | apply List.mem_append_right)) | exact Sees.root (hR _ (by omega)) | exact Sees.own (RowsIn.mem (by repeat (first | exact RowsIn.here | exact RowsIn.last | apply RowsIn.there | apply RowsIn.thereS)) _ (by omega)) | exact Sees.own (WRowsIn.mem (by repeat (first | exact WRowsIn.here | exact WRowsIn.last | apply WRowsIn.there | apply WRowsIn.thereS)) _ (by omega))) (by first | omega | (rw [marks_length]; omega))) ?_
        refine VL.r (.inl rfl) rfl (by decide) (yr_move rfl rfl) ?_
        refine VL.r (.inl rfl) rfl (by decide) (yr_ofInt rfl Try.underlying3 Try.underlying22 rfl) ?_
        refine VL.r (.inl rfl) rfl (by decide) (yr_fcmp rfl (.inr (.inl rfl)) rfl rfl) ?_
        refine VL.nil ?_
        refine VE.then_wp ?_
        refine V.cond rfl (fun h4 => ?_) (fun h4 => ?_)
        · skip
          refine V.seq ?_
          refine V.region ?_
          refine VL.r (.inl rfl) rfl (by decide) (yr_assign (u := .int .i64 (-1)) rfl rfl) ?_
          refine VL.nil ?_
          refine VE.then_wp ?_
          refine V.ret ?_
          refine VE.then_ret ?_
          refine VE.block_ret ?_
          refine VE.then_ret ?_
          refine VE.then_ret ?_
          refine VE.block_ret ?_
          refine VE.then_ret ?_
          refine ret1 rfl rfl (fun w1 hw => ?_)
          exfalso
          rw [marks_get (by omega), show k0 + ((k * 3 + 2 : Nat) : Int) = k0 + ((k * 3 : Nat) : Int) + 1 + 1 by omega, fne_self, nearest_num] at h4
          cases h4
        · skip
          refine V.skip ?_
          refine VE.then_wp ?_
          refine V.region ?_
          refine VL.r (.inl rfl) rfl (by decide) (yr_move rfl rfl) ?_
          refine VL.r (.inl rfl) rfl (by decide) (yr_int rfl rfl rfl (.inl ⟨rfl, wrap_in (by omega)⟩)) ?_
          refine VL.r (.inl rfl) rfl (by decide) (yr_assign rfl rfl) ?_
          refine VL.nil ?_
          refine VE.block_normal ?_
          refine VE.then_wp ?_
          refine V.region ?_
          refine VL.r (.inl rfl) rfl (by decide) (yr_move rfl rfl) ?_
          refine VL.r (.inl rfl) rfl (by decide) (yr_int rfl rfl rfl (.inl ⟨rfl, wrap_in (by omega)⟩)) ?_
          refine VL.r (.inl rfl) rfl (by decide) (yr_assign rfl rfl) ?_
          refine VL.nil ?_
          refine VE.round (k + 1) ?_ ?_ ?_ ?_ ?_
          · exact (.cons (congrArg (fun i => some (Value.int .i64 i)) (by omega)) (.cons rfl .nil))
          · exact (.cons rfl .nil)
          · exact (fun w hw => hw)
          · omega
          · (try dsimp only); omega
  · skip
    replace h1 := ic_lss' h1
    refine V.exit ?_
    refine VE.then_exit ?_
    refine VE.then_exit ?_
    refine VE.block_here ?_
    refine VE.then_wp ?_
    refine V.seq ?_
    refine V.region ?_
    refine VL.r (.inl rfl) rfl (by decide) (yr_move rfl rfl) ?_
    refine VL.r (.inl rfl) rfl (by decide) (yr_assign rfl rfl) ?_
    refine VL.nil ?_
    refine VE.then_wp ?_
    refine V.ret ?_
    refine ret1 rfl rfl (fun w1 hw => ?_)
    obtain rfl : k = n := by omega
    exact ⟨rfl, hw.below⟩

theorem c_markWs {w0 : World} {a : Option Addr} {c : Nat} {f : Nat → Option Addr × Nat} {ws : List Wr} {cap : Nat} {k0 : Int} (h0 : 0 ≤ k0) (hk0 : k0 ≤ 10000000) (hn : wbulk ws ≤ 1050000) : Mut Try.prog 49 [.slice a ws.length c, .int .i64 k0] w0 (⟨a, whd f ws, cap, 148⟩ :: wrents 32 f ws) (fun _ : Unit => .int .i64 (k0 + ((wsum ws ws.length * 3 + ws.length * 2 : Nat) : Int))) (fun _ => []) := by
  refine Mut.enter Try.func49 rfl Try.ntmps49 (Nat.le_of_ble_eq_true rfl) ?_
  intro F
  have hwl : ws.length ≤ wbulk ws := by unfold wbulk; omega
  have hrw : ∀ k, k < ws.length → (ws.getD k zw).1.length ≤ 1050000 := fun k hk => by have := wbulk_row hk; omega
  refine V.seq ?_
  refine V.region ?_
  refine VL.r (.inl rfl) rfl (by decide) (yr_assign (u := .int .i64 0) rfl rfl) ?_
  refine VL.nil ?_
  refine VE.then_wp ?_
  refine V.seq ?_
  refine V.seq ?_
  refine V.region ?_
  refine VL.r (.inl rfl) rfl (by decide) (yr_assign (u := .int .i64 0) rfl rfl) ?_
  refine VL.nil ?_
  refine VE.then_wp ?_
  refine V.block ?_
  refine V.loopc (G := Nat × (List Value)) [(0, _)] (fun ⟨k, us⟩ => k ≤ ws.length ∧ WH f ws us) (fun ⟨k, us⟩ => (F ++ (⟨a, us, cap, 148⟩ :: (wrents 32 f ws).drop k))) (fun ⟨k, us⟩ => [(1, .int .i64 (k0 + ((wsum ws k * 3 + k * 2 : Nat) : Int))), (5, .int .i64 (k : Int))]) (fun ⟨k, us⟩ => ws.length - k) (0, whd f ws) (.cons rfl .nil) (.cons (congrArg (fun i => some (Value.int .i64 i)) (by rw [wsum_zero]; omega)) (.cons rfl .nil)) ?_ ?_ ?_
  · exact (fun w hw => hw)
  · exact (by exact ⟨by omega, WH.first f ws⟩)
  rintro ⟨k, us⟩ ⟨hk, hus⟩
  show V _ _ _ (F ++ (⟨a, us, cap, 148⟩ :: (wrents 32 f ws).drop k)) ([(1, .int .i64 (k0 + ((wsum ws k * 3 + k * 2 : Nat) : Int))), (5, .int .i64 (k : Int))] ++ [(0, _)]) _ _
  have hrk := fun h => hrw k h
  have hsk := wsum_mono ws k ws.length hk (Nat.le_refl _)
  have hbu : wbulk ws = ws.length + wsum ws ws.length := rfl
  refine V.seq ?_
  refine V.seq ?_
  refine V.region ?_
  refine VL.r (.inl rfl) rfl (by decide) (yr_move rfl rfl) ?_
  refine VL.r (.inl rfl) rfl (by decide) (yr_move rfl rfl) ?_
  refine VL.r (.inl rfl) rfl (by decide) (yr_len rfl Try.underlying57 rfl) ?_
  refine VL.r (.inl rfl) rfl (by decide) (yr_icmp rfl (.inr (.inr (.inl rfl))) rfl rfl) ?_
  refine VL.nil ?_
  refine VE.then_wp ?_
  refine V.cond rfl (fun h1 => ?_) (fun h1 => ?_)
  · skip
    replace h1 := ic_lss h1
    have hrk2 := hrk (by omega)
    refine VX.own (O' := F ++ (⟨a, us, cap, 148⟩ :: ⟨(f k).1, vl (ws.getD k zw).1, (f k).2 * 3, 32⟩ :: (wrents 32 f ws).drop (k + 1))) (fun w hw => by rw [← wrents_drop (by omega)]; exact hw) ?_
    refine V.skip ?_
    refine VE.then_wp ?_
    refine V.seq ?_
    refine V.block ?_
    refine V.seq ?_
    refine V.region ?_
    refine VL.r (.inl rfl) rfl (by decide) (yr_move rfl rfl) ?_
    refine VL.r (.inl rfl) rfl (by decide) (yr_move rfl rfl) ?_
    refine VL.q (.inl rfl) rfl (by decide) (yq_idxN (k := k) rfl Try.underlying57 sz148_MarkW rfl rfl (by first | exact Sees.root (by assumption) | exact Sees.own (by repeat (first | exact List.mem_cons_self | exact List.mem_append_left _ (by assumption) | apply List.mem_cons_of_mem | apply List.mem_append_right)) | exact Sees.root (hR _ (by omega)) | exact Sees.own (RowsIn.mem (by repeat (first | exact RowsIn.here | exact RowsIn.last | apply RowsIn.there | apply RowsIn.thereS)) _ (by omega)) | exact Sees.own (WRowsIn.mem (by repeat (first | exact WRowsIn.here | exact WRowsIn.last | apply WRowsIn.there | apply WRowsIn.thereS)) _ (by omega))) (by first | rfl | omega | (push_cast; rfl) | (push_cast; omega) | exact tmod_nat _ _) (by first | exact hus.1 | (simp only [setAt, List.length_set]; exact hus.1)) (by decide) (by omega)) ?_
    refine VL.r (.inl rfl) rfl (by decide) (show YR _ _ _ (.pointer (some (adr _ (_ + 0)))) from yr_fieldAddr rfl Try.underlying148 rfl rfl sz33_MarkW (by decide) rfl) ?_
    refine VL.q (.inl rfl) rfl (by decide) (yq_load rfl fb33_MarkW rfl (by first | exact Sees.root (by assumption) | exact Sees.own (by repeat (first | exact List.mem_cons_self | exact List.mem_append_left _ (by assumption) | apply List.mem_cons_of_mem | apply List.mem_append_right)) | exact Sees.root (hR _ (by omega)) | exact Sees.own (RowsIn.mem (by repeat (first | exact RowsIn.here | exact RowsIn.last | apply RowsIn.there | apply RowsIn.thereS)) _ (by omega)) | exact Sees.own (WRowsIn.mem (by repeat (first | exact WRowsIn.here | exact WRowsIn.last | apply WRowsIn.there | apply WRowsIn.thereS)) _ (by omega))) (hus.2.2 k (by omega))) ?_
    refine VL.r (.inl rfl) rfl (by decide) (yr_move rfl rfl) ?_
    refine VL.c (.inl rfl) rfl (by decide) (yc_callf rfl known73_MarkW (.cons rfl (.cons rfl .nil)) (by apply Pick.one; repeat (first | exact Rem.here | apply Rem.there | apply Rem.thereS)) (c_markV (by omega) (by omega) (by omega))) ?_
    rintro ⟨⟩
    refine VL.r (.inl rfl) rfl (by decide) (yr_assign rfl rfl) ?_
    refine VL.nil ?_
    refine VE.then_wp ?_
    refine V.seq ?_
    refine V.region ?_
    refine VL.r (.inl rfl) rfl (by decide) (yr_move rfl rfl) ?_
    refine VL.r (.inl rfl) rfl (by decide) (yr_move rfl rfl) ?_
    refine VL.r (.inl rfl) rfl (by decide) (yr_move rfl rfl) ?_
    refine VL.r (.inl rfl) rfl (by decide) (yr_rem rfl rfl rfl (by omega)) ?_
    refine VL.r (.inl rfl) rfl (by decide) (yr_icmp rfl (.inl rfl) rfl rfl) ?_
    refine VL.q (.inl rfl) rfl (by decide) (yq_idxN (k := k) rfl Try.underlying57 sz148_MarkW rfl rfl (by first | exact Sees.root (by assumption) | exact Sees.own (by repeat (first | exact List.mem_cons_self | exact List.mem_append_left _ (by assumption) | apply List.mem_cons_of_mem | apply List.mem_append_right)) | exact Sees.root (hR _ (by omega)) | exact Sees.own (RowsIn.mem (by repeat (first | exact RowsIn.here | exact RowsIn.last | apply RowsIn.there | apply RowsIn.thereS)) _ (by omega)) | exact Sees.own (WRowsIn.mem (by repeat (first | exact WRowsIn.here | exact WRowsIn.last | apply WRowsIn.there | apply WRowsIn.thereS)) _ (by omega))) (by first | rfl | omega | (push_cast; rfl) | (push_cast; omega) | exact tmod_nat _ _) (by first | exact hus.1 | (simp only [setAt, List.length_set]; exact hus.1)) (by decide) (by omega)) ?_
    refine VL.r (.inl rfl) rfl (by decide) (show YR _ _ _ (.pointer (some (adr _ (_ + 1)))) from yr_fieldAddr rfl Try.underlying148 rfl rfl sz4_MarkW (by decide) rfl) ?_
    refine VL.s (.inl rfl) rfl (yc_store rfl sz4_MarkW rfl rfl (by repeat (first | exact UpdF.here | apply UpdF.there | apply UpdF.thereS)) (.inl ⟨rfl, rfl⟩) rfl (by (try simp only [setAt, List.length_set]); have := hus.1; omega) (by decide) rfl) ?_
    rintro ⟨⟩
    refine VL.nil ?_
    refine VE.then_wp ?_
    refine V.seq ?_
    refine V.region ?_
    refine VL.r (.inl rfl) rfl (by decide) (yr_move rfl rfl) ?_
    refine VL.r (.inl rfl) rfl (by decide) (yr_int rfl rfl rfl (.inl ⟨rfl, wrap_in (by omega)⟩)) ?_
    refine VL.r (.inl rfl) rfl (by decide) (yr_assign rfl rfl) ?_
    refine VL.nil ?_
    refine VE.then_wp ?_
    refine V.seq ?_
    refine V.region ?_
    refine VL.r (.inl rfl) rfl (by decide) (yr_move rfl rfl) ?_
    refine VL.r (.inl rfl) rfl (by decide) (yr_move rfl rfl) ?_
    refine VL.r (.inl rfl) rfl (by decide) (yr_move rfl rfl) ?_
    refine VL.r (.inl rfl) rfl (by decide) (yr_ofInt rfl Try.underlying3 Try.underlying22 rfl) ?_
    refine VL.q (.inl rfl) rfl (by decide) (yq_idxN (k := k) rfl Try.underlying57 sz148_MarkW rfl rfl (by first | exact Sees.root (by assumption) | exact Sees.own (by repeat (first | exact List.mem_cons_self | exact List.mem_append_left _ (by assumption) | apply List.mem_cons_of_mem | apply List.mem_append_right)) | exact Sees.root (hR _ (by omega)) | exact Sees.own (RowsIn.mem (by repeat (first | exact RowsIn.here | exact RowsIn.last | apply RowsIn.there | apply RowsIn.thereS)) _ (by omega)) | exact Sees.own (WRowsIn.mem (by repeat (first | exact WRowsIn.here | exact WRowsIn.last | apply WRowsIn.there | apply WRowsIn.thereS)) _ (by omega))) (by first | rfl | omega | (push_cast; rfl) | (push_cast; omega) | exact tmod_nat _ _) (by first | exact hus.1 | (simp only [setAt, List.length_set]; exact hus.1)) (by decide) (by omega)) ?_
    refine VL.r (.inl rfl) rfl (by decide) (show YR _ _ _ (.pointer (some (adr _ (_ + 2)))) from yr_fieldAddr rfl Try.underlying148 rfl rfl sz22_MarkW (by decide) rfl) ?_
    refine VL.s (.inl rfl) rfl (yc_store rfl sz22_MarkW rfl rfl (by repeat (first | exact UpdF.here | apply UpdF.there | apply UpdF.thereS)) (.inl ⟨rfl, rfl⟩) rfl (by (try simp only [setAt, List.length_set]); have := hus.1; omega) (by decide) rfl) ?_
    rintro ⟨⟩
    refine VL.nil ?_
    refine VE.then_wp ?_
    refine V.region ?_
    refine VL.r (.inl rfl) rfl (by decide) (yr_move rfl rfl) ?_
    refine VL.r (.inl rfl) rfl (by decide) (yr_int rfl rfl rfl (.inl ⟨rfl, wrap_in (by omega)⟩)) ?_
    refine VL.r (.inl rfl) rfl (by decide) (yr_assign rfl rfl) ?_
    refine VL.nil ?_
    refine VE.block_normal ?_
    refine VE.then_wp ?_
    refine V.region ?_
    refine VL.r (.inl rfl) rfl (by decide) (yr_move rfl rfl) ?_
    refine VL.r (.inl rfl) rfl (by decide) (yr_int rfl rfl rfl (.inl ⟨rfl, wrap_in (by omega)⟩)) ?_
    refine VL.r (.inl rfl) rfl (by decide) (yr_assign rfl rfl) ?_
    refine VL.nil ?_
    refine VE.round (k + 1, (us.set (k * 3 + 1) (.bool (icmp .eql ((k0 + ((wsum ws k * 3 + k * 2 : Nat) : Int) + (((ws.getD k zw).1.length * 3 : Nat) : Int)).tmod 3) 0))).set (k * 3 + 2) (.float .f32 (FloatKind.f32.nearest (k0 + ((wsum ws k * 3 + k * 2 : Nat) : Int) + (((ws.getD k zw).1.length * 3 : Nat) : Int) + 1)))) ?_ ?_ ?_ ?_ ?_
    · exact (.cons (congrArg (fun i => some (Value.int .i64 i)) (by rw [wsum_succ (by omega)]; omega)) (.cons rfl .nil))
    · exact (.cons rfl .nil)
    · exact (fun w hw => hw.sub (List.sublist_cons_self _ _))
    · exact ⟨by omega, (hus.set (by omega) rfl).set (by omega) rfl⟩
    · (try dsimp only); omega
  · skip
    replace h1 := ic_lss' h1
    refine V.exit ?_
    refine VE.then_exit ?_
    refine VE.then_exit ?_
    refine VE.block_here ?_
    refine VE.then_wp ?_
    refine V.seq ?_
    refine V.region ?_
    refine VL.r (.inl rfl) rfl (by decide) (yr_move rfl rfl) ?_
    refine VL.r (.inl rfl) rfl (by decide) (yr_assign rfl rfl) ?_
    refine VL.nil ?_
    refine VE.then_wp ?_
    refine V.ret ?_
    refine ret1 rfl rfl (fun w1 hw => ?_)
    exact ⟨(), by (obtain rfl : k = ws.length := by omega); rfl, by simpa using hw.sub (List.sublist_append_left F _)⟩

end Go.Proofs.Ytacjcomjnabmhaa
