/- Walks: NewD. Printed by gen.py. -/
import Derived.Test.YtacjcomjnabmhaaWDeskL
import Derived.KernelRfl
namespace Go.Proofs.Ytacjcomjnabmhaa
open Go.RowKit
set_option linter.unusedVariables false
set_option linter.unusedSimpArgs false
set_option maxRecDepth 20000

theorem sz29_NewD : (Try.prog.info? 29).map (·.size) = some 1 := by kernel_rfl
theorem fb29_NewD : flatB Try.prog 29 = true := by kernel_rfl
theorem known21_NewD : Known Try.prog 21 := Known.mk' Try.func21 (by kernel_rfl)
theorem known22_NewD : Known Try.prog 22 := Known.mk' Try.func22 (by kernel_rfl)
theorem sz57_NewD : (Try.prog.info? 57).map (·.size) = some 1 := by kernel_rfl
theorem fb57_NewD : flatB Try.prog 57 = true := by kernel_rfl
theorem known49_NewD : Known Try.prog 49 := Known.mk' Try.func49 (by kernel_rfl)
theorem sz58_NewD : (Try.prog.info? 58).map (·.size) = some 1 := by kernel_rfl
theorem fb58_NewD : flatB Try.prog 58 = true := by kernel_rfl
theorem known102_NewD : Known Try.prog 102 := Known.mk' Try.func102 (by kernel_rfl)
theorem sz60_NewD : (Try.prog.info? 60).map (·.size) = some 3 := by kernel_rfl
theorem known103_NewD : Known Try.prog 103 := Known.mk' Try.func103 (by kernel_rfl)
theorem known104_NewD : Known Try.prog 104 := Known.mk' Try.func104 (by kernel_rfl)
theorem known105_NewD : Known Try.prog 105 := Known.mk' Try.func105 (by kernel_rfl)
theorem known106_NewD : Known Try.prog 106 := Known.mk' Try.func106 (by kernel_rfl)
theorem zero62_NewD : (Try.prog.info? 62).bind (·.zero) = some (Value.agg #[Value.slice none 0 0, Value.slice none 0 0, Value.slice none 0 0, Value.slice none 0 0, Value.slice none 0 0]) := by kernel_rfl
theorem elt22_NewD : Elt Try.prog 22 [Value.float .f32 0] 4 := Elt.mk' (by kernel_rfl) (by decide)
theorem lay60_NewD : Lay Try.prog 60 [Value.slice none 0 0, Value.slice none 0 0, Value.slice none 0 0] [(0, 1), (1, 1), (2, 1)] := Lay.mk' (by kernel_rfl) (by kernel_rfl)
theorem lay62_NewD : Lay Try.prog 62 [Value.slice none 0 0, Value.slice none 0 0, Value.slice none 0 0, Value.slice none 0 0, Value.slice none 0 0] [(0, 1), (1, 1), (2, 3)] := Lay.mk' (by kernel_rfl) (by kernel_rfl)
theorem sz62_NewD : (Try.prog.info? 62).map (·.size) = some 5 := by kernel_rfl
theorem zero60_NewD : (Try.prog.info? 60).bind (·.zero) = some (Value.agg #[Value.slice none 0 0, Value.slice none 0 0, Value.slice none 0 0]) := by kernel_rfl
theorem elt148_NewD : Elt Try.prog 148 [Value.slice none 0 0, Value.bool false, Value.float .f32 0] 32 := Elt.mk' (by kernel_rfl) (by decide)
theorem elt183_NewD : Elt Try.prog 183 [Value.float .f32 0, Value.float .f32 0, Value.float .f32 0, Value.float .f32 0] 16 := Elt.mk' (by kernel_rfl) (by decide)
theorem known34_NewD : Known Try.prog 34 := Known.mk' Try.func34 (by kernel_rfl)
theorem known35_NewD : Known Try.prog 35 := Known.mk' Try.func35 (by kernel_rfl)
theorem known36_NewD : Known Try.prog 36 := Known.mk' Try.func36 (by kernel_rfl)
theorem known37_NewD : Known Try.prog 37 := Known.mk' Try.func37 (by kernel_rfl)
theorem known38_NewD : Known Try.prog 38 := Known.mk' Try.func38 (by kernel_rfl)
attribute [local irreducible] fop fcmp fconv sqrt32 fneg segF fieldS fieldI List.getD circOk deskOk

theorem c_mark0W {w : World} {k0 : Int} : Pure Try.prog 49 [.slice none 0 0, .int .i64 k0] w (.int .i64 k0) := by
  refine Pure.enter Try.func49 rfl Try.ntmps49 (Nat.le_of_ble_eq_true rfl) ?_
  refine V.seq ?_
  refine V.region ?_
  refine VL.r (.inl rfl) rfl (by decide) (yr_assign (u := .int .i64 0) rfl rfl) ?_
  refine VL.nil ?_
  refine VE.then_wp ?_
  refine V.seq ?_
  refine V.seq ?_
  refine V.region ?_
  refine VL.r (.inl rfl) rfl (by decide) (yr_assign (u := .int .i64 0) rfl rfl) ?_
  refine VL.nil ?_
  refine VE.then_wp ?_
  refine V.block ?_
  refine V.loops (G := Nat) [(0, _)] (fun (k : Nat) => 0 ≤ k) (fun (k : Nat) => [(1, .int .i64 k0), (5, .int .i64 (k : Int))]) (fun (k : Nat) => k) 0 (.cons rfl .nil) (.cons rfl (.cons rfl .nil)) ?_ ?_
  · exact (Nat.le_refl 0)
  rintro k hk
  show V _ _ _ _ ([(1, .int .i64 k0), (5, .int .i64 (k : Int))] ++ [(0, _)]) _ _
  refine V.seq ?_
  refine V.seq ?_
  refine V.region ?_
  refine VL.r (.inl rfl) rfl (by decide) (yr_move rfl rfl) ?_
  refine VL.r (.inl rfl) rfl (by decide) (yr_move rfl rfl) ?_
  refine VL.r (.inl rfl) rfl (by decide) (yr_len rfl Try.underlying57 rfl) ?_
  refine VL.r (.inl rfl) rfl (by decide) (yr_icmp rfl (.inr (.inr (.inl rfl))) rfl rfl) ?_
  refine VL.nil ?_
  refine VE.then_wp ?_
  refine V.cond rfl (fun h1 => ?_) (fun h1 => ?_)
  · skip
    replace h1 := ic_lss h1
    omega
  · skip
    replace h1 := ic_lss' h1
    refine V.exit ?_
    refine VE.then_exit ?_
    refine VE.then_exit ?_
    refine VE.block_here ?_
    refine VE.then_wp ?_
    refine V.seq ?_
    refine V.region ?_
    refine VL.r (.inl rfl) rfl (by decide) (yr_move rfl rfl) ?_
    refine VL.r (.inl rfl) rfl (by decide) (yr_assign rfl rfl) ?_
    refine VL.nil ?_
    refine VE.then_wp ?_
    refine V.ret ?_
    refine ret1 rfl rfl (fun w1 hw => ?_)
    exact ⟨rfl, hw.below⟩

theorem c_mark0P {w : World} {k0 : Int} : Pure Try.prog 102 [.slice none 0 0, .int .i64 k0] w (.int .i64 k0) := by
  refine Pure.enter Try.func102 rfl Try.ntmps102 (Nat.le_of_ble_eq_true rfl) ?_
  refine V.seq ?_
  refine V.region ?_
  refine VL.r (.inl rfl) rfl (by decide) (yr_assign (u := .int .i64 0) rfl rfl) ?_
  refine VL.nil ?_
  refine VE.then_wp ?_
  refine V.seq ?_
  refine V.seq ?_
  refine V.region ?_
  refine VL.r (.inl rfl) rfl (by decide) (yr_assign (u := .int .i64 0) rfl rfl) ?_
  refine VL.nil ?_
  refine VE.then_wp ?_
  refine V.block ?_
  refine V.loops (G := Nat) [(0, _)] (fun (k : Nat) => 0 ≤ k) (fun (k : Nat) => [(1, .int .i64 k0), (5, .int .i64 (k : Int))]) (fun (k : Nat) => k) 0 (.cons rfl .nil) (.cons rfl (.cons rfl .nil)) ?_ ?_
  · exact (Nat.le_refl 0)
  rintro k hk
  show V _ _ _ _ ([(1, .int .i64 k0), (5, .int .i64 (k : Int))] ++ [(0, _)]) _ _
  refine V.seq ?_
  refine V.seq ?_
  refine V.region ?_
  refine VL.r (.inl rfl) rfl (by decide) (yr_move rfl rfl) ?_
  refine VL.r (.inl rfl) rfl (by decide) (yr_move rfl rfl) ?_
  refine VL.r (.inl rfl) rfl (by decide) (yr_len rfl Try.underlying58 rfl) ?_
  refine VL.r (.inl rfl) rfl (by decide) (yr_icmp rfl (.inr (.inr (.inl rfl))) rfl rfl) ?_
  refine VL.nil ?_
  refine VE.then_wp ?_
  refine V.cond rfl (fun h1 => ?_) (fun h1 => ?_)
  · skip
    replace h1 := ic_lss h1
    omega
  · skip
    replace h1 := ic_lss' h1
    refine V.exit ?_
    refine VE.then_exit ?_
    refine VE.then_exit ?_
    refine VE.block_here ?_
    refine VE.then_wp ?_
    refine V.seq ?_
    refine V.region ?_
    refine VL.r (.inl rfl) rfl (by decide) (yr_move rfl rfl) ?_
    refine VL.r (.inl rfl) rfl (by decide) (yr_assign rfl rfl) ?_
    refine VL.nil ?_
    refine VE.then_wp ?_
    refine V.ret ?_
    refine ret1 rfl rfl (fun w1 hw => ?_)
    exact ⟨rfl, hw.below⟩

theorem c_held0W {w : World} {k0 : Int} : Pure Try.prog 104 [.slice none 0 0, .int .i64 k0] w (.int .i64 k0) := by
  refine Pure.enter Try.func104 rfl Try.ntmps104 (Nat.le_of_ble_eq_true rfl) ?_
  refine V.seq ?_
  refine V.region ?_
  refine VL.r (.inl rfl) rfl (by decide) (yr_assign (u := .int .i64 0) rfl rfl) ?_
  refine VL.nil ?_
  refine VE.then_wp ?_
  refine V.seq ?_
  refine V.seq ?_
  refine V.region ?_
  refine VL.r (.inl rfl) rfl (by decide) (yr_assign (u := .int .i64 0) rfl rfl) ?_
  refine VL.nil ?_
  refine VE.then_wp ?_
  refine V.block ?_
  refine V.loops (G := Nat) [(0, _)] (fun (k : Nat) => 0 ≤ k) (fun (k : Nat) => [(1, .int .i64 k0), (5, .int .i64 (k : Int))]) (fun (k : Nat) => k) 0 (.cons rfl .nil) (.cons rfl (.cons rfl .nil)) ?_ ?_
  · exact (Nat.le_refl 0)
  rintro k hk
  show V _ _ _ _ ([(1, .int .i64 k0), (5, .int .i64 (k : Int))] ++ [(0, _)]) _ _
  refine V.seq ?_
  refine V.seq ?_
  refine V.region ?_
  refine VL.r (.inl rfl) rfl (by decide) (yr_move rfl rfl) ?_
  refine VL.r (.inl rfl) rfl (by decide) (yr_move rfl rfl) ?_
  refine VL.r (.inl rfl) rfl (by decide) (yr_len rfl Try.underlying57 rfl) ?_
  refine VL.r (.inl rfl) rfl (by decide) (yr_icmp rfl (.inr (.inr (.inl rfl))) rfl rfl) ?_
  refine VL.nil ?_
  refine VE.then_wp ?_
  refine V.cond rfl (fun h1 => ?_) (fun h1 => ?_)
  · skip
    replace h1 := ic_lss h1
    omega
  · skip
    replace h1 := ic_lss' h1
    refine V.exit ?_
    refine VE.then_exit ?_
    refine VE.then_exit ?_
    refine VE.block_here ?_
    refine VE.then_wp ?_
    refine V.seq ?_
    refine V.region ?_
    refine VL.r (.inl rfl) rfl (by decide) (yr_move rfl rfl) ?_
    refine VL.r (.inl rfl) rfl (by decide) (yr_assign rfl rfl) ?_
    refine VL.nil ?_
    refine VE.then_wp ?_
    refine V.ret ?_
    refine ret1 rfl rfl (fun w1 hw => ?_)
    exact ⟨rfl, hw.below⟩

theorem c_held0P {w : World} {k0 : Int} : Pure Try.prog 105 [.slice none 0 0, .int .i64 k0] w (.int .i64 k0) := by
  refine Pure.enter Try.func105 rfl Try.ntmps105 (Nat.le_of_ble_eq_true rfl) ?_
  refine V.seq ?_
  refine V.region ?_
  refine VL.r (.inl rfl) rfl (by decide) (yr_assign (u := .int .i64 0) rfl rfl) ?_
  refine VL.nil ?_
  refine VE.then_wp ?_
  refine V.seq ?_
  refine V.seq ?_
  refine V.region ?_
  refine VL.r (.inl rfl) rfl (by decide) (yr_assign (u := .int .i64 0) rfl rfl) ?_
  refine VL.nil ?_
  refine VE.then_wp ?_
  refine V.block ?_
  refine V.loops (G := Nat) [(0, _)] (fun (k : Nat) => 0 ≤ k) (fun (k : Nat) => [(1, .int .i64 k0), (5, .int .i64 (k : Int))]) (fun (k : Nat) => k) 0 (.cons rfl .nil) (.cons rfl (.cons rfl .nil)) ?_ ?_
  · exact (Nat.le_refl 0)
  rintro k hk
  show V _ _ _ _ ([(1, .int .i64 k0), (5, .int .i64 (k : Int))] ++ [(0, _)]) _ _
  refine V.seq ?_
  refine V.seq ?_
  refine V.region ?_
  refine VL.r (.inl rfl) rfl (by decide) (yr_move rfl rfl) ?_
  refine VL.r (.inl rfl) rfl (by decide) (yr_move rfl rfl) ?_
  refine VL.r (.inl rfl) rfl (by decide) (yr_len rfl Try.underlying58 rfl) ?_
  refine VL.r (.inl rfl) rfl (by decide) (yr_icmp rfl (.inr (.inr (.inl rfl))) rfl rfl) ?_
  refine VL.nil ?_
  refine VE.then_wp ?_
  refine V.cond rfl (fun h1 => ?_) (fun h1 => ?_)
  · skip
    replace h1 := ic_lss h1
    omega
  · skip
    replace h1 := ic_lss' h1
    refine V.exit ?_
    refine VE.then_exit ?_
    refine VE.then_exit ?_
    refine VE.block_here ?_
    refine VE.then_wp ?_
    refine V.seq ?_
    refine V.region ?_
    refine VL.r (.inl rfl) rfl (by decide) (yr_move rfl rfl) ?_
    refine VL.r (.inl rfl) rfl (by decide) (yr_assign rfl rfl) ?_
    refine VL.nil ?_
    refine VE.then_wp ?_
    refine V.ret ?_
    refine ret1 rfl rfl (fun w1 hw => ?_)
    exact ⟨rfl, hw.below⟩

theorem c_markCirc {w0 : World} {a1 a2 a3 : Option Addr} {c1 c2 c3 : Nat} {cap1 cap2 cap3 x y z : Nat} {k0 : Int} (h0 : 0 ≤ k0) (hk0 : k0 ≤ 1000) : Mut Try.prog 103 [.agg #[.slice a1 1 c1, .slice a2 1 c2, .slice a3 1 c3], .int .i64 k0] w0 [⟨a1, fl [x], cap1, 22⟩, ⟨a2, fl [y], cap2, 22⟩, ⟨a3, fl [z], cap3, 22⟩] (fun _ : Unit => .int .i64 (k0 + 3)) (fun _ => [⟨a1, fl (marks k0 1), cap1, 22⟩, ⟨a2, fl (marks (k0 + 1) 1), cap2, 22⟩, ⟨a3, fl (marks (k0 + 2) 1), cap3, 22⟩]) := by
  refine Mut.enter Try.func103 rfl Try.ntmps103 (Nat.le_of_ble_eq_true rfl) ?_
  intro F
  refine V.seq ?_
  refine V.region ?_
  refine VL.new1 (.inl rfl) rfl (by decide) (yn_box rfl rfl (.inr ⟨rfl, rfl⟩)) ?_
  intro b2
  refine VL.r (.inl rfl) rfl (by decide) (yr_assign (u := .int .i64 0) rfl rfl) ?_
  refine VL.nil ?_
  refine VE.then_wp ?_
  refine V.seq ?_
  refine V.region ?_
  refine VL.r (.inl rfl) rfl (by decide) (yr_fieldAddr rfl Try.underlying60 rfl rfl sz29_NewD (by decide) rfl) ?_
  refine VL.q (.inl rfl) rfl (by decide) (yq_load rfl fb29_NewD rfl (by first | exact Sees.root (by assumption) | exact Sees.own (by repeat (first | exact List.mem_cons_self | exact List.mem_append_left _ (by assumption) | apply List.mem_cons_of_mem | apply List.mem_append_right)) | exact Sees.root (hR _ (by omega)) | exact Sees.own (RowsIn.mem (by repeat (first | exact RowsIn.here | exact RowsIn.last | apply RowsIn.there | apply RowsIn.thereS)) _ (by omega)) | exact Sees.own (WRowsIn.mem (by repeat (first | exact WRowsIn.here | exact WRowsIn.last | apply WRowsIn.there | apply WRowsIn.thereS)) _ (by omega))) rfl) ?_
  refine VL.r (.inl rfl) rfl (by decide) (yr_move rfl rfl) ?_
  refine VL.c (.inl rfl) rfl (by decide) (yc_callf rfl known21_NewD (.cons rfl (.cons rfl .nil)) (by apply Pick.one; repeat (first | exact Rem.here | exact Rem.all | exact Rem.hereS | apply Rem.there | apply Rem.thereS)) (c_markF (xs := [x]) (by (try simp only [List.length_cons, List.length_nil]); omega) (by (try simp only [List.length_cons, List.length_nil]); omega) (by simp))) ?_
  rintro ⟨⟩
  refine VL.r (.inl rfl) rfl (by decide) (yr_assign rfl rfl) ?_
  refine VL.nil ?_
  refine VE.then_wp ?_
  refine V.seq ?_
  refine V.region ?_
  refine VL.r (.inl rfl) rfl (by decide) (yr_fieldAddr rfl Try.underlying60 rfl rfl sz29_NewD (by decide) rfl) ?_
  refine VL.q (.inl rfl) rfl (by decide) (yq_load rfl fb29_NewD rfl (by first | exact Sees.root (by assumption) | exact Sees.own (by repeat (first | exact List.mem_cons_self | exact List.mem_append_left _ (by assumption) | apply List.mem_cons_of_mem | apply List.mem_append_right)) | exact Sees.root (hR _ (by omega)) | exact Sees.own (RowsIn.mem (by repeat (first | exact RowsIn.here | exact RowsIn.last | apply RowsIn.there | apply RowsIn.thereS)) _ (by omega)) | exact Sees.own (WRowsIn.mem (by repeat (first | exact WRowsIn.here | exact WRowsIn.last | apply WRowsIn.there | apply WRowsIn.thereS)) _ (by omega))) rfl) ?_
  refine VL.r (.inl rfl) rfl (by decide) (yr_move rfl rfl) ?_
  refine VL.c (.inl rfl) rfl (by decide) (yc_callf rfl known21_NewD (.cons rfl (.cons rfl .nil)) (by apply Pick.one; repeat (first | exact Rem.here | exact Rem.all | exact Rem.hereS | apply Rem.there | apply Rem.thereS)) (c_markF (xs := [y]) (by (try simp only [List.length_cons, List.length_nil]); omega) (by (try simp only [List.length_cons, List.length_nil]); omega) (by simp))) ?_
  rintro ⟨⟩
  refine VL.r (.inl rfl) rfl (by decide) (yr_assign rfl rfl) ?_
  refine VL.nil ?_
  refine VE.then_wp ?_
  refine V.seq ?_
  refine V.region ?_
  refine VL.r (.inl rfl) rfl (by decide) (yr_fieldAddr rfl Try.underlying60 rfl rfl sz29_NewD (by decide) rfl) ?_
  refine VL.q (.inl rfl) rfl (by decide) (yq_load rfl fb29_NewD rfl (by first | exact Sees.root (by assumption) | exact Sees.own (by repeat (first | exact List.mem_cons_self | exact List.mem_append_left _ (by assumption) | apply List.mem_cons_of_mem | apply List.mem_append_right)) | exact Sees.root (hR _ (by omega)) | exact Sees.own (RowsIn.mem (by repeat (first | exact RowsIn.here | exact RowsIn.last | apply RowsIn.there | apply RowsIn.thereS)) _ (by omega)) | exact Sees.own (WRowsIn.mem (by repeat (first | exact WRowsIn.here | exact WRowsIn.last | apply WRowsIn.there | apply WRowsIn.thereS)) _ (by omega))) rfl) ?_
  refine VL.r (.inl rfl) rfl (by decide) (yr_move rfl rfl) ?_
  refine VL.c (.inl rfl) rfl (by decide) (yc_callf rfl known21_NewD (.cons rfl (.cons rfl .nil)) (by apply Pick.one; repeat (first | exact Rem.here | exact Rem.all | exact Rem.hereS | apply Rem.there | apply Rem.thereS)) (c_markF (xs := [z]) (by (try simp only [List.length_cons, List.length_nil]); omega) (by (try simp only [List.length_cons, List.length_nil]); omega) (by simp))) ?_
  rintro ⟨⟩
  refine VL.r (.inl rfl) rfl (by decide) (yr_assign rfl rfl) ?_
  refine VL.nil ?_
  refine VE.then_wp ?_
  refine V.seq ?_
  refine V.region ?_
  refine VL.r (.inl rfl) rfl (by decide) (yr_move rfl rfl) ?_
  refine VL.r (.inl rfl) rfl (by decide) (yr_assign rfl rfl) ?_
  refine VL.nil ?_
  refine VE.then_wp ?_
  refine V.ret ?_
  refine ret1 rfl rfl (fun w1 hw => ?_)
  have h8 : Hp w0 (F ++ [⟨a1, fl (marks k0 1), cap1, 22⟩, ⟨a2, fl (marks (k0 + ((1 : Nat) : Int)) 1), cap2, 22⟩, ⟨a3, fl (marks (k0 + ((1 : Nat) : Int) + ((1 : Nat) : Int)) 1), cap3, 22⟩]) w1 := hw.take (by apply Pick.e3; all_goals (repeat (first | exact Rem.here | exact Rem.all | exact Rem.hereS | apply Rem.there | apply Rem.thereS))) (by repeat (first | exact List.Sublist.refl _ | exact List.sublist_append_left _ _ | apply List.Sublist.cons))
  have e1 : k0 + ((1 : Nat) : Int) = k0 + 1 := rfl
  have e2 : k0 + ((1 : Nat) : Int) + ((1 : Nat) : Int) = k0 + 2 := by omega
  rw [e2, e1] at h8
  exact ⟨(), congrArg (Value.int .i64) (by simp only [List.length_cons, List.length_nil]; omega), h8⟩

theorem c_heldCirc {w : World} {a1 a2 a3 : Option Addr} {c1 c2 c3 : Nat} {k0 : Int} (hx : Cl w a1 (fl (marks k0 1))) (hy : Cl w a2 (fl (marks (k0 + 1) 1))) (hz : Cl w a3 (fl (marks (k0 + 2) 1))) (h0 : 0 ≤ k0) (hk0 : k0 ≤ 1000) : Pure Try.prog 106 [.agg #[.slice a1 1 c1, .slice a2 1 c2, .slice a3 1 c3], .int .i64 k0] w (.int .i64 (k0 + 3)) := by
  refine Pure.enter Try.func106 rfl Try.ntmps106 (Nat.le_of_ble_eq_true rfl) ?_
  refine V.seq ?_
  refine V.region ?_
  refine VL.new1 (.inl rfl) rfl (by decide) (yn_box rfl rfl (.inr ⟨rfl, rfl⟩)) ?_
  intro b2
  refine VL.r (.inl rfl) rfl (by decide) (yr_assign (u := .int .i64 0) rfl rfl) ?_
  refine VL.nil ?_
  refine VE.then_wp ?_
  refine V.seq ?_
  refine V.region ?_
  refine VL.r (.inl rfl) rfl (by decide) (yr_fieldAddr rfl Try.underlying60 rfl rfl sz29_NewD (by decide) rfl) ?_
  refine VL.q (.inl rfl) rfl (by decide) (yq_load rfl fb29_NewD rfl (by first | exact Sees.root (by assumption) | exact Sees.own (by repeat (first | exact List.mem_cons_self | exact List.mem_append_left _ (by assumption) | apply List.mem_cons_of_mem | apply List.mem_append_right)) | exact Sees.root (hR _ (by omega)) | exact Sees.own (RowsIn.mem (by repeat (first | exact RowsIn.here | exact RowsIn.last | apply RowsIn.there | apply RowsIn.thereS)) _ (by omega)) | exact Sees.own (WRowsIn.mem (by repeat (first | exact WRowsIn.here | exact WRowsIn.last | apply WRowsIn.there | apply WRowsIn.thereS)) _ (by omega))) rfl) ?_
  refine VL.r (.inl rfl) rfl (by decide) (yr_move rfl rfl) ?_
  refine VL.q (.inl rfl) rfl (by decide) (yq_callf rfl known22_NewD (.cons rfl (.cons rfl .nil)) (fun w hw => (c_heldF (n := 1) (by first | exact Sees.root (by assumption) w hw | exact Sees.own (by repeat (first | exact List.mem_cons_self | exact List.mem_append_left _ (by assumption) | apply List.mem_cons_of_mem | apply List.mem_append_right)) w hw) (by omega) (by omega) (by omega)))) ?_
  refine VL.r (.inl rfl) rfl (by decide) (yr_assign rfl rfl) ?_
  refine VL.nil ?_
  refine VE.then_wp ?_
  refine V.seq ?_
  refine V.seq ?_
  refine V.region ?_
  refine VL.r (.inl rfl) rfl (by decide) (yr_move rfl rfl) ?_
  refine VL.r (.inl rfl) rfl (by decide) (yr_icmp rfl (.inr (.inr (.inl rfl))) rfl rfl) ?_
  refine VL.nil ?_
  refine VE.then_wp ?_
  refine V.cond rfl (fun h1 => ?_) (fun h1 => ?_)
  · skip
    replace h1 := ic_lss h1
    refine V.seq ?_
    refine V.region ?_
    refine VL.r (.inl rfl) rfl (by decide) (yr_assign (u := .int .i64 (-1)) rfl rfl) ?_
    refine VL.nil ?_
    refine VE.then_wp ?_
    refine V.ret ?_
    refine VE.then_ret ?_
    refine ret1 rfl rfl (fun w1 hw => ?_)
    exfalso; omega
  · skip
    replace h1 := ic_lss' h1
    refine V.skip ?_
    refine VE.then_wp ?_
    refine V.seq ?_
    refine V.region ?_
    refine VL.r (.inl rfl) rfl (by decide) (yr_fieldAddr rfl Try.underlying60 rfl rfl sz29_NewD (by decide) rfl) ?_
    refine VL.q (.inl rfl) rfl (by decide) (yq_load rfl fb29_NewD rfl (by first | exact Sees.root (by assumption) | exact Sees.own (by repeat (first | exact List.mem_cons_self | exact List.mem_append_left _ (by assumption) | apply List.mem_cons_of_mem | apply List.mem_append_right)) | exact Sees.root (hR _ (by omega)) | exact Sees.own (RowsIn.mem (by repeat (first | exact RowsIn.here | exact RowsIn.last | apply RowsIn.there | apply RowsIn.thereS)) _ (by omega)) | exact Sees.own (WRowsIn.mem (by repeat (first | exact WRowsIn.here | exact WRowsIn.last | apply WRowsIn.there | apply WRowsIn.thereS)) _ (by omega))) rfl) ?_
    refine VL.r (.inl rfl) rfl (by decide) (yr_move rfl rfl) ?_
    refine VL.q (.inl rfl) rfl (by decide) (yq_callf rfl known22_NewD (.cons rfl (.cons rfl .nil)) (fun w hw => (c_heldF (n := 1) (by exact (by first | exact Sees.root (by assumption) w hw | exact Sees.own (by repeat (first | exact List.mem_cons_self | exact List.mem_append_left _ (by assumption) | apply List.mem_cons_of_mem | apply List.mem_append_right)) w hw)) (by omega) (by omega) (by omega)))) ?_
    refine VL.r (.inl rfl) rfl (by decide) (yr_assign rfl rfl) ?_
    refine VL.nil ?_
    refine VE.then_wp ?_
    refine V.seq ?_
    refine V.seq ?_
    refine V.region ?_
    refine VL.r (.inl rfl) rfl (by decide) (yr_move rfl rfl) ?_
    refine VL.r (.inl rfl) rfl (by decide) (yr_icmp rfl (.inr (.inr (.inl rfl))) rfl rfl) ?_
    refine VL.nil ?_
    refine VE.then_wp ?_
    refine V.cond rfl (fun h2 => ?_) (fun h2 => ?_)
    · skip
      replace h2 := ic_lss h2
      refine V.seq ?_
      refine V.region ?_
      refine VL.r (.inl rfl) rfl (by decide) (yr_assign (u := .int .i64 (-1)) rfl rfl) ?_
      refine VL.nil ?_
      refine VE.then_wp ?_
      refine V.ret ?_
      refine VE.then_ret ?_
      refine ret1 rfl rfl (fun w1 hw => ?_)
      exfalso; omega
    · skip
      replace h2 := ic_lss' h2
      refine V.skip ?_
      refine VE.then_wp ?_
      refine V.seq ?_
      refine V.region ?_
      refine VL.r (.inl rfl) rfl (by decide) (yr_fieldAddr rfl Try.underlying60 rfl rfl sz29_NewD (by decide) rfl) ?_
      refine VL.q (.inl rfl) rfl (by decide) (yq_load rfl fb29_NewD rfl (by first | exact Sees.root (by assumption) | exact Sees.own (by repeat (first | exact List.mem_cons_self | exact List.mem_append_left _ (by assumption) | apply List.mem_cons_of_mem | apply List.mem_append_right)) | exact Sees.root (hR _ (by omega)) | exact Sees.own (RowsIn.mem (by repeat (first | exact RowsIn.here | exact RowsIn.last | apply RowsIn.there | apply RowsIn.thereS)) _ (by omega)) | exact Sees.own (WRowsIn.mem (by repeat (first | exact WRowsIn.here | exact WRowsIn.last | apply WRowsIn.there | apply WRowsIn.thereS)) _ (by omega))) rfl) ?_
      refine VL.r (.inl rfl) rfl (by decide) (yr_move rfl rfl) ?_
      refine VL.q (.inl rfl) rfl (by decide) (yq_callf rfl known22_NewD (.cons rfl (.cons rfl .nil)) (fun w hw => (c_heldF (n := 1) (k0 := k0 + ((1 : Nat) : Int) + ((1 : Nat) : Int)) (by rw [show k0 + ((1 : Nat) : Int) + ((1 : Nat) : Int) = k0 + 2 by omega]; exact (by first | exact Sees.root (by assumption) w hw | exact Sees.own (by repeat (first | exact List.mem_cons_self | exact List.mem_append_left _ (by assumption) | apply List.mem_cons_of_mem | apply List.mem_append_right)) w hw)) (by omega) (by omega) (by omega)))) ?_
      refine VL.r (.inl rfl) rfl (by decide) (yr_assign rfl rfl) ?_
      refine VL.nil ?_
      refine VE.then_wp ?_
      refine V.seq ?_
      refine V.seq ?_
      refine V.region ?_
      refine VL.r (.inl rfl) rfl (by decide) (yr_move rfl rfl) ?_
      refine VL.r (.inl rfl) rfl (by decide) (yr_icmp rfl (.inr (.inr (.inl rfl))) rfl rfl) ?_
      refine VL.nil ?_
      refine VE.then_wp ?_
      refine V.cond rfl (fun h3 => ?_) (fun h3 => ?_)
      · skip
        replace h3 := ic_lss h3
        refine V.seq ?_
        refine V.region ?_
        refine VL.r (.inl rfl) rfl (by decide) (yr_assign (u := .int .i64 (-1)) rfl rfl) ?_
        refine VL.nil ?_
        refine VE.then_wp ?_
        refine V.ret ?_
        refine VE.then_ret ?_
        refine ret1 rfl rfl (fun w1 hw => ?_)
        exfalso; omega
      · skip
        replace h3 := ic_lss' h3
        refine V.skip ?_
        refine VE.then_wp ?_
        refine V.seq ?_
        refine V.region ?_
        refine VL.r (.inl rfl) rfl (by decide) (yr_move rfl rfl) ?_
        refine VL.r (.inl rfl) rfl (by decide) (yr_assign rfl rfl) ?_
        refine VL.nil ?_
        refine VE.then_wp ?_
        refine V.ret ?_
        refine ret1 rfl rfl (fun w1 hw => ?_)
        exact ⟨congrArg (Value.int .i64) (by omega), hw.below⟩

theorem c_markDesk0 {w0 : World} {a1 a2 a3 : Option Addr} {c1 c2 c3 : Nat} {cap1 cap2 cap3 x y z : Nat} {k0 : Int} (h0 : 0 ≤ k0) (hk0 : k0 ≤ 1000) : Mut Try.prog 37 [.agg #[.slice none 0 0, .slice none 0 0, .slice a1 1 c1, .slice a2 1 c2, .slice a3 1 c3], .int .i64 k0] w0 [⟨a1, fl [x], cap1, 22⟩, ⟨a2, fl [y], cap2, 22⟩, ⟨a3, fl [z], cap3, 22⟩] (fun _ : Unit => .int .i64 (k0 + 3)) (fun _ => [⟨a1, fl (marks k0 1), cap1, 22⟩, ⟨a2, fl (marks (k0 + 1) 1), cap2, 22⟩, ⟨a3, fl (marks (k0 + 2) 1), cap3, 22⟩]) := by
  refine Mut.enter Try.func37 rfl Try.ntmps37 (Nat.le_of_ble_eq_true rfl) ?_
  intro F
  refine V.seq ?_
  refine V.region ?_
  refine VL.new1 (.inl rfl) rfl (by decide) (yn_box rfl rfl (.inr ⟨rfl, rfl⟩)) ?_
  intro b2
  refine VL.r (.inl rfl) rfl (by decide) (yr_assign (u := .int .i64 0) rfl rfl) ?_
  refine VL.nil ?_
  refine VE.then_wp ?_
  refine V.seq ?_
  refine V.region ?_
  refine VL.r (.inl rfl) rfl (by decide) (yr_fieldAddr rfl Try.underlying62 rfl rfl sz57_NewD (by decide) rfl) ?_
  refine VL.q (.inl rfl) rfl (by decide) (yq_load rfl fb57_NewD rfl (by first | exact Sees.root (by assumption) | exact Sees.own (by repeat (first | exact List.mem_cons_self | exact List.mem_append_left _ (by assumption) | apply List.mem_cons_of_mem | apply List.mem_append_right)) | exact Sees.root (hR _ (by omega)) | exact Sees.own (RowsIn.mem (by repeat (first | exact RowsIn.here | exact RowsIn.last | apply RowsIn.there | apply RowsIn.thereS)) _ (by omega)) | exact Sees.own (WRowsIn.mem (by repeat (first | exact WRowsIn.here | exact WRowsIn.last | apply WRowsIn.there | apply WRowsIn.thereS)) _ (by omega))) rfl) ?_
  refine VL.r (.inl rfl) rfl (by decide) (yr_move rfl rfl) ?_
  refine VL.q (.inl rfl) rfl (by decide) (yq_callf rfl known49_NewD (.cons rfl (.cons rfl .nil)) (fun w hw => c_mark0W)) ?_
  refine VL.r (.inl rfl) rfl (by decide) (yr_assign rfl rfl) ?_
  refine VL.nil ?_
  refine VE.then_wp ?_
  refine V.seq ?_
  refine V.region ?_
  refine VL.r (.inl rfl) rfl (by decide) (yr_fieldAddr rfl Try.underlying62 rfl rfl sz58_NewD (by decide) rfl) ?_
  refine VL.q (.inl rfl) rfl (by decide) (yq_load rfl fb58_NewD rfl (by first | exact Sees.root (by assumption) | exact Sees.own (by repeat (first | exact List.mem_cons_self | exact List.mem_append_left _ (by assumption) | apply List.mem_cons_of_mem | apply List.mem_append_right)) | exact Sees.root (hR _ (by omega)) | exact Sees.own (RowsIn.mem (by repeat (first | exact RowsIn.here | exact RowsIn.last | apply RowsIn.there | apply RowsIn.thereS)) _ (by omega)) | exact Sees.own (WRowsIn.mem (by repeat (first | exact WRowsIn.here | exact WRowsIn.last | apply WRowsIn.there | apply WRowsIn.thereS)) _ (by omega))) rfl) ?_
  refine VL.r (.inl rfl) rfl (by decide) (yr_move rfl rfl) ?_
  refine VL.q (.inl rfl) rfl (by decide) (yq_callf rfl known102_NewD (.cons rfl (.cons rfl .nil)) (fun w hw => c_mark0P)) ?_
  refine VL.r (.inl rfl) rfl (by decide) (yr_assign rfl rfl) ?_
  refine VL.nil ?_
  refine VE.then_wp ?_
  refine V.seq ?_
  refine V.region ?_
  refine VL.r (.inl rfl) rfl (by decide) (yr_fieldAddr rfl Try.underlying62 rfl rfl sz60_NewD (by decide) rfl) ?_
  refine VL.q (.inl rfl) rfl (by decide) (yq_loadS rfl Try.underlying60 sz60_NewD rfl (by first | exact Sees.root (by assumption) | exact Sees.own (by repeat (first | exact List.mem_cons_self | exact List.mem_append_left _ (by assumption) | apply List.mem_cons_of_mem | apply List.mem_append_right)) | exact Sees.root (hR _ (by omega)) | exact Sees.own (RowsIn.mem (by repeat (first | exact RowsIn.here | exact RowsIn.last | apply RowsIn.there | apply RowsIn.thereS)) _ (by omega)) | exact Sees.own (WRowsIn.mem (by repeat (first | exact WRowsIn.here | exact WRowsIn.last | apply WRowsIn.there | apply WRowsIn.thereS)) _ (by omega))) rfl rfl rfl) ?_
  refine VL.r (.inl rfl) rfl (by decide) (yr_move rfl rfl) ?_
  refine VL.c (.inl rfl) rfl (by decide) (yc_callf rfl known103_NewD (.cons rfl (.cons rfl .nil)) (by apply Pick.e3; all_goals (repeat (first | exact Rem.here | exact Rem.all | exact Rem.hereS | apply Rem.there | apply Rem.thereS))) (c_markCirc (x := x) (y := y) (z := z) (by omega) (by omega))) ?_
  rintro ⟨⟩
  refine VL.r (.inl rfl) rfl (by decide) (yr_assign rfl rfl) ?_
  refine VL.nil ?_
  refine VE.then_wp ?_
  refine V.seq ?_
  refine V.region ?_
  refine VL.r (.inl rfl) rfl (by decide) (yr_move rfl rfl) ?_
  refine VL.r (.inl rfl) rfl (by decide) (yr_assign rfl rfl) ?_
  refine VL.nil ?_
  refine VE.then_wp ?_
  refine V.ret ?_
  refine ret1 rfl rfl (fun w1 hw => ?_)
  exact ⟨(), rfl, hw.take (F := F) (by apply Pick.e3; all_goals (repeat (first | exact Rem.here | exact Rem.all | exact Rem.hereS | apply Rem.there | apply Rem.thereS))) (by repeat (first | exact List.Sublist.refl _ | exact List.sublist_append_left _ _ | apply List.Sublist.cons))⟩

theorem c_heldDesk0 {w : World} {a1 a2 a3 : Option Addr} {c1 c2 c3 : Nat} {k0 : Int} (hx : Cl w a1 (fl (marks k0 1))) (hy : Cl w a2 (fl (marks (k0 + 1) 1))) (hz : Cl w a3 (fl (marks (k0 + 2) 1))) (h0 : 0 ≤ k0) (hk0 : k0 ≤ 1000) : Pure Try.prog 38 [.agg #[.slice none 0 0, .slice none 0 0, .slice a1 1 c1, .slice a2 1 c2, .slice a3 1 c3], .int .i64 k0] w (.int .i64 (k0 + 3)) := by
  refine Pure.enter Try.func38 rfl Try.ntmps38 (Nat.le_of_ble_eq_true rfl) ?_
  refine V.seq ?_
  refine V.region ?_
  refine VL.new1 (.inl rfl) rfl (by decide) (yn_box rfl rfl (.inr ⟨rfl, rfl⟩)) ?_
  intro b2
  refine VL.r (.inl rfl) rfl (by decide) (yr_assign (u := .int .i64 0) rfl rfl) ?_
  refine VL.nil ?_
  refine VE.then_wp ?_
  refine V.seq ?_
  refine V.region ?_
  refine VL.r (.inl rfl) rfl (by decide) (yr_fieldAddr rfl Try.underlying62 rfl rfl sz57_NewD (by decide) rfl) ?_
  refine VL.q (.inl rfl) rfl (by decide) (yq_load rfl fb57_NewD rfl (by first | exact Sees.root (by assumption) | exact Sees.own (by repeat (first | exact List.mem_cons_self | exact List.mem_append_left _ (by assumption) | apply List.mem_cons_of_mem | apply List.mem_append_right)) | exact Sees.root (hR _ (by omega)) | exact Sees.own (RowsIn.mem (by repeat (first | exact RowsIn.here | exact RowsIn.last | apply RowsIn.there | apply RowsIn.thereS)) _ (by omega)) | exact Sees.own (WRowsIn.mem (by repeat (first | exact WRowsIn.here | exact WRowsIn.last | apply WRowsIn.there | apply WRowsIn.thereS)) _ (by omega))) rfl) ?_
  refine VL.r (.inl rfl) rfl (by decide) (yr_move rfl rfl) ?_
  refine VL.q (.inl rfl) rfl (by decide) (yq_callf rfl known104_NewD (.cons rfl (.cons rfl .nil)) (fun w hw => c_held0W)) ?_
  refine VL.r (.inl rfl) rfl (by decide) (yr_assign rfl rfl) ?_
  refine VL.nil ?_
  refine VE.then_wp ?_
  refine V.seq ?_
  refine V.seq ?_
  refine V.region ?_
  refine VL.r (.inl rfl) rfl (by decide) (yr_move rfl rfl) ?_
  refine VL.r (.inl rfl) rfl (by decide) (yr_icmp rfl (.inr (.inr (.inl rfl))) rfl rfl) ?_
  refine VL.nil ?_
  refine VE.then_wp ?_
  refine V.cond rfl (fun h1 => ?_) (fun h1 => ?_)
  · skip
    replace h1 := ic_lss h1
    refine V.seq ?_
    refine V.region ?_
    refine VL.r (.inl rfl) rfl (by decide) (yr_assign (u := .int .i64 (-1)) rfl rfl) ?_
    refine VL.nil ?_
    refine VE.then_wp ?_
    refine V.ret ?_
    refine VE.then_ret ?_
    refine ret1 rfl rfl (fun w1 hw => ?_)
    exfalso; omega
  · skip
    replace h1 := ic_lss' h1
    refine V.skip ?_
    refine VE.then_wp ?_
    refine V.seq ?_
    refine V.region ?_
    refine VL.r (.inl rfl) rfl (by decide) (yr_fieldAddr rfl Try.underlying62 rfl rfl sz58_NewD (by decide) rfl) ?_
    refine VL.q (.inl rfl) rfl (by decide) (yq_load rfl fb58_NewD rfl (by first | exact Sees.root (by assumption) | exact Sees.own (by repeat (first | exact List.mem_cons_self | exact List.mem_append_left _ (by assumption) | apply List.mem_cons_of_mem | apply List.mem_append_right)) | exact Sees.root (hR _ (by omega)) | exact Sees.own (RowsIn.mem (by repeat (first | exact RowsIn.here | exact RowsIn.last | apply RowsIn.there | apply RowsIn.thereS)) _ (by omega)) | exact Sees.own (WRowsIn.mem (by repeat (first | exact WRowsIn.here | exact WRowsIn.last | apply WRowsIn.there | apply WRowsIn.thereS)) _ (by omega))) rfl) ?_
    refine VL.r (.inl rfl) rfl (by decide) (yr_move rfl rfl) ?_
    refine VL.q (.inl rfl) rfl (by decide) (yq_callf rfl known105_NewD (.cons rfl (.cons rfl .nil)) (fun w hw => c_held0P)) ?_
    refine VL.r (.inl rfl) rfl (by decide) (yr_assign rfl rfl) ?_
    refine VL.nil ?_
    refine VE.then_wp ?_
    refine V.seq ?_
    refine V.seq ?_
    refine V.region ?_
    refine VL.r (.inl rfl) rfl (by decide) (yr_move rfl rfl) ?_
    refine VL.r (.inl rfl) rfl (by decide) (yr_icmp rfl (.inr (.inr (.inl rfl))) rfl rfl) ?_
    refine VL.nil ?_
    refine VE.then_wp ?_
    refine V.cond rfl (fun h2 => ?_) (fun h2 => ?_)
    · skip
      replace h2 := ic_lss h2
      refine V.seq ?_
      refine V.region ?_
      refine VL.r (.inl rfl) rfl (by decide) (yr_assign (u := .int .i64 (-1)) rfl rfl) ?_
      refine VL.nil ?_
      refine VE.then_wp ?_
      refine V.ret ?_
      refine VE.then_ret ?_
      refine ret1 rfl rfl (fun w1 hw => ?_)
      exfalso; omega
    · skip
      replace h2 := ic_lss' h2
      refine V.skip ?_
      refine VE.then_wp ?_
      refine V.seq ?_
      refine V.region ?_
      refine VL.r (.inl rfl) rfl (by decide) (yr_fieldAddr rfl Try.underlying62 rfl rfl sz60_NewD (by decide) rfl) ?_
      refine VL.q (.inl rfl) rfl (by decide) (yq_loadS rfl Try.underlying60 sz60_NewD rfl (by first | exact Sees.root (by assumption) | exact Sees.own (by repeat (first | exact List.mem_cons_self | exact List.mem_append_left _ (by assumption) | apply List.mem_cons_of_mem | apply List.mem_append_right)) | exact Sees.root (hR _ (by omega)) | exact Sees.own (RowsIn.mem (by repeat (first | exact RowsIn.here | exact RowsIn.last | apply RowsIn.there | apply RowsIn.thereS)) _ (by omega)) | exact Sees.own (WRowsIn.mem (by repeat (first | exact WRowsIn.here | exact WRowsIn.last | apply WRowsIn.there | apply WRowsIn.thereS)) _ (by omega))) rfl rfl rfl) ?_
      refine VL.r (.inl rfl) rfl (by decide) (yr_move rfl rfl) ?_
      refine VL.q (.inl rfl) rfl (by decide) (yq_callf rfl known106_NewD (.cons rfl (.cons rfl .nil)) (fun w hw => (c_heldCirc (by first | exact Sees.root (by assumption) w hw | exact Sees.own (by repeat (first | exact List.mem_cons_self | exact List.mem_append_left _ (by assumption) | apply List.mem_cons_of_mem | apply List.mem_append_right)) w hw) (by first | exact Sees.root (by assumption) w hw | exact Sees.own (by repeat (first | exact List.mem_cons_self | exact List.mem_append_left _ (by assumption) | apply List.mem_cons_of_mem | apply List.mem_append_right)) w hw) (by first | exact Sees.root (by assumption) w hw | exact Sees.own (by repeat (first | exact List.mem_cons_self | exact List.mem_append_left _ (by assumption) | apply List.mem_cons_of_mem | apply List.mem_append_right)) w hw) (by omega) (by omega)))) ?_
      refine VL.r (.inl rfl) rfl (by decide) (yr_assign rfl rfl) ?_
      refine VL.nil ?_
      refine VE.then_wp ?_
      refine V.seq ?_
      refine V.seq ?_
      refine V.region ?_
      refine VL.r (.inl rfl) rfl (by decide) (yr_move rfl rfl) ?_
      refine VL.r (.inl rfl) rfl (by decide) (yr_icmp rfl (.inr (.inr (.inl rfl))) rfl rfl) ?_
      refine VL.nil ?_
      refine VE.then_wp ?_
      refine V.cond rfl (fun h3 => ?_) (fun h3 => ?_)
      · skip
        replace h3 := ic_lss h3
        refine V.seq ?_
        refine V.region ?_
        refine VL.r (.inl rfl) rfl (by decide) (yr_assign (u := .int .i64 (-1)) rfl rfl) ?_
        refine VL.nil ?_
        refine VE.then_wp ?_
        refine V.ret ?_
        refine VE.then_ret ?_
        refine ret1 rfl rfl (fun w1 hw => ?_)
        exfalso; omega
      · skip
        replace h3 := ic_lss' h3
        refine V.skip ?_
        refine VE.then_wp ?_
        refine V.seq ?_
        refine V.region ?_
        refine VL.r (.inl rfl) rfl (by decide) (yr_move rfl rfl) ?_
        refine VL.r (.inl rfl) rfl (by decide) (yr_assign rfl rfl) ?_
        refine VL.nil ?_
        refine VE.then_wp ?_
        refine V.ret ?_
        refine ret1 rfl rfl (fun w1 hw => ?_)
        exact ⟨rfl, hw.below⟩

theorem c_implND {w : World} : New Try.prog 35 [] w (fun p : Nat × Nat × Nat => .agg #[.slice none 0 0, .slice none 0 0, .slice (some ⟨p.1, 0, none⟩) 1 1, .slice (some ⟨p.2.1, 0, none⟩) 1 1, .slice (some ⟨p.2.2, 0, none⟩) 1 1]) (fun p => [⟨some ⟨p.2.2, 0, none⟩, fl [1065353216], 1 * 1, 22⟩, ⟨some ⟨p.2.1, 0, none⟩, fl [0], 1 * 1, 22⟩, ⟨some ⟨p.1, 0, none⟩, fl [1065353216], 1 * 1, 22⟩]) := by
  refine New.enter Try.func35 rfl Try.ntmps35 (Nat.le_of_ble_eq_true rfl) ?_
  refine V.seq ?_
  refine V.region ?_
  refine VL.new1 (.inl rfl) rfl (by decide) (yn_alloc rfl zero62_NewD rfl) ?_
  intro b0
  refine VL.nil ?_
  refine VE.then_wp ?_
  refine V.seq ?_
  refine V.region ?_
  refine VL.new1 (.inl rfl) rfl (by decide) (yn_lit rfl Try.underlying29 elt22_NewD rfl (by decide) (.cons rfl .nil) (by first | (simp; done) | (simp [cn, cn1, cn0]; done)) rfl rfl rfl) ?_
  intro b1
  refine VL.new1 (.inl rfl) rfl (by decide) (yn_lit rfl Try.underlying29 elt22_NewD rfl (by decide) (.cons rfl .nil) (by first | (simp; done) | (simp [cn, cn1, cn0]; done)) rfl rfl rfl) ?_
  intro b2
  refine VL.new1 (.inl rfl) rfl (by decide) (yn_lit rfl Try.underlying29 elt22_NewD rfl (by decide) (.cons rfl .nil) (by first | (simp; done) | (simp [cn, cn1, cn0]; done)) rfl rfl rfl) ?_
  intro b3
  refine VL.r (.inl rfl) rfl (by decide) (yr_build rfl lay60_NewD rfl (.cons rfl (.cons rfl (.cons rfl .nil))) (by first | (simp; done) | (simp [vv]; done) | (simp [cn, cn1, cn0]; done)) rfl) ?_
  refine VL.r (.inl rfl) rfl (by decide) (yr_build rfl lay62_NewD rfl (.cons rfl .nil) (by first | (simp; done) | (simp [vv]; done) | (simp [cn, cn1, cn0]; done)) rfl) ?_
  refine VL.s (.inl rfl) rfl (yc_store rfl sz62_NewD rfl rfl (by repeat (first | exact UpdF.here | apply UpdF.there | apply UpdF.thereS)) (.inr ⟨rfl, rfl⟩) rfl (by first | exact Nat.le_of_ble_eq_true rfl | simp) (by decide) rfl) ?_
  rintro ⟨⟩
  refine VL.nil ?_
  refine VE.then_wp ?_
  refine V.ret ?_
  refine retC rfl (rv_cellS rfl Try.underlying62 sz62_NewD (by first | exact Sees.root (by assumption) | exact Sees.own (by repeat (first | exact List.mem_cons_self | exact List.mem_append_left _ (by assumption) | apply List.mem_cons_of_mem | apply List.mem_append_right)) | exact Sees.root (hR _ (by omega)) | exact Sees.own (RowsIn.mem (by repeat (first | exact RowsIn.here | exact RowsIn.last | apply RowsIn.there | apply RowsIn.thereS)) _ (by omega)) | exact Sees.own (WRowsIn.mem (by repeat (first | exact WRowsIn.here | exact WRowsIn.last | apply WRowsIn.there | apply WRowsIn.thereS)) _ (by omega))) rfl rfl rfl) (by nofun) (fun w1 hw => ?_)
  exact ⟨(b1, b2, b3), rfl, hw.outs ((((List.nil_sublist _).cons_cons _).cons_cons _).cons_cons _)⟩

theorem c_specND {w : World} : New Try.prog 34 [] w (fun p : Nat × Nat × Nat × Nat × Nat => .agg #[.slice (some ⟨p.2.2.2.1, 0, none⟩) 0 0, .slice (some ⟨p.2.2.2.2, 0, none⟩) 0 0, .slice (some ⟨p.1, 0, none⟩) 1 1, .slice (some ⟨p.2.1, 0, none⟩) 1 1, .slice (some ⟨p.2.2.1, 0, none⟩) 1 1]) (fun p => [⟨some ⟨p.2.2.1, 0, none⟩, fl [1065353216], 1 * 1, 22⟩, ⟨some ⟨p.2.1, 0, none⟩, fl [0], 1 * 1, 22⟩, ⟨some ⟨p.1, 0, none⟩, fl [1065353216], 1 * 1, 22⟩]) := by
  refine New.enter Try.func34 rfl Try.ntmps34 (Nat.le_of_ble_eq_true rfl) ?_
  refine V.seq ?_
  refine V.region ?_
  refine VL.new1 (.inl rfl) rfl (by decide) (yn_alloc rfl zero62_NewD rfl) ?_
  intro b0
  refine VL.nil ?_
  refine VE.then_wp ?_
  refine V.seq ?_
  refine V.region ?_
  refine VL.new1 (.inl rfl) rfl (by decide) (yn_lit rfl Try.underlying29 elt22_NewD rfl (by decide) (.cons rfl .nil) (by first | (simp; done) | (simp [cn, cn1, cn0]; done)) rfl rfl rfl) ?_
  intro b2
  refine VL.new1 (.inl rfl) rfl (by decide) (yn_lit rfl Try.underlying29 elt22_NewD rfl (by decide) (.cons rfl .nil) (by first | (simp; done) | (simp [cn, cn1, cn0]; done)) rfl rfl rfl) ?_
  intro b3
  refine VL.new1 (.inl rfl) rfl (by decide) (yn_lit rfl Try.underlying29 elt22_NewD rfl (by decide) (.cons rfl .nil) (by first | (simp; done) | (simp [cn, cn1, cn0]; done)) rfl rfl rfl) ?_
  intro b4
  refine VL.r (.inl rfl) rfl (by decide) (yr_build rfl lay60_NewD rfl (.cons rfl (.cons rfl (.cons rfl .nil))) (by first | (simp; done) | (simp [vv]; done) | (simp [cn, cn1, cn0]; done)) rfl) ?_
  refine VL.new1 (.inl rfl) rfl (by decide) (yn_alloc rfl zero60_NewD rfl) ?_
  intro b1
  refine VL.s (.inl rfl) rfl (yc_store rfl sz60_NewD rfl rfl (by repeat (first | exact UpdF.here | apply UpdF.there | apply UpdF.thereS)) (.inr ⟨rfl, rfl⟩) rfl (by first | exact Nat.le_of_ble_eq_true rfl | simp) (by decide) rfl) ?_
  rintro ⟨⟩
  refine VL.nil ?_
  refine VE.then_wp ?_
  refine V.seq ?_
  refine V.region ?_
  refine VL.new1 (.inl rfl) rfl (by decide) (yn_buildSlice rfl Try.underlying57 elt148_NewD rfl (by decide) .nil (by simp) rfl rfl) ?_
  intro b6
  refine VL.new1 (.inl rfl) rfl (by decide) (yn_buildSlice rfl Try.underlying58 elt183_NewD rfl (by decide) .nil (by simp) rfl rfl) ?_
  intro b7
  refine VL.q (.inl rfl) rfl (by decide) (yq_loadS rfl Try.underlying60 sz60_NewD rfl (by first | exact Sees.root (by assumption) | exact Sees.own (by repeat (first | exact List.mem_cons_self | exact List.mem_append_left _ (by assumption) | apply List.mem_cons_of_mem | apply List.mem_append_right)) | exact Sees.root (hR _ (by omega)) | exact Sees.own (RowsIn.mem (by repeat (first | exact RowsIn.here | exact RowsIn.last | apply RowsIn.there | apply RowsIn.thereS)) _ (by omega)) | exact Sees.own (WRowsIn.mem (by repeat (first | exact WRowsIn.here | exact WRowsIn.last | apply WRowsIn.there | apply WRowsIn.thereS)) _ (by omega))) rfl rfl rfl) ?_
  refine VL.r (.inl rfl) rfl (by decide) (yr_build rfl lay62_NewD rfl (.cons rfl (.cons rfl (.cons rfl .nil))) (by first | (simp; done) | (simp [vv]; done) | (simp [cn, cn1, cn0]; done)) rfl) ?_
  refine VL.s (.inl rfl) rfl (yc_store rfl sz62_NewD rfl rfl (by repeat (first | exact UpdF.here | apply UpdF.there | apply UpdF.thereS)) (.inr ⟨rfl, rfl⟩) rfl (by first | exact Nat.le_of_ble_eq_true rfl | simp) (by decide) rfl) ?_
  rintro ⟨⟩
  refine VL.nil ?_
  refine VE.then_wp ?_
  refine V.ret ?_
  refine retC rfl (rv_cellS rfl Try.underlying62 sz62_NewD (by first | exact Sees.root (by assumption) | exact Sees.own (by repeat (first | exact List.mem_cons_self | exact List.mem_append_left _ (by assumption) | apply List.mem_cons_of_mem | apply List.mem_append_right)) | exact Sees.root (hR _ (by omega)) | exact Sees.own (RowsIn.mem (by repeat (first | exact RowsIn.here | exact RowsIn.last | apply RowsIn.there | apply RowsIn.thereS)) _ (by omega)) | exact Sees.own (WRowsIn.mem (by repeat (first | exact WRowsIn.here | exact WRowsIn.last | apply WRowsIn.there | apply WRowsIn.thereS)) _ (by omega))) rfl rfl rfl) (by nofun) (fun w1 hw => ?_)
  exact ⟨(b2, b3, b4, b6, b7), rfl, (hw.pick (by apply Pick.e3; all_goals (repeat (first | exact Rem.here | exact Rem.all | exact Rem.hereS | apply Rem.there | apply Rem.thereS)))).outs (List.Sublist.refl _)⟩

theorem law_NewDesk {w : World} : Pure Try.prog 7 [] w (.bool true) := by
  refine Pure.enter Try.func7 rfl Try.ntmps7 (Nat.le_of_ble_eq_true rfl) ?_
  refine V.seq ?_
  refine V.region ?_
  refine VL.r (.inl rfl) rfl (by decide) (yr_assign (u := .bool false) rfl rfl) ?_
  refine VL.nil ?_
  refine VE.then_wp ?_
  refine V.seq ?_
  refine V.region ?_
  refine VL.new (.inl rfl) rfl (by decide) (yn_callf rfl known34_NewD .nil (fun w hw => c_specND)) ?_
  rintro ⟨a6, b6, c6, d6, e6⟩
  refine VL.new1 (.inl rfl) rfl (by decide) (yn_alloc rfl zero62_NewD rfl) ?_
  intro b1
  refine VL.s (.inl rfl) rfl (yc_store rfl sz62_NewD rfl rfl (by repeat (first | exact UpdF.here | apply UpdF.there | apply UpdF.thereS)) (.inr ⟨rfl, rfl⟩) rfl (by first | exact Nat.le_of_ble_eq_true rfl | simp) (by decide) rfl) ?_
  rintro ⟨⟩
  refine VL.nil ?_
  refine VE.then_wp ?_
  refine V.seq ?_
  refine V.region ?_
  refine VL.new (.inl rfl) rfl (by decide) (yn_callf rfl known35_NewD .nil (fun w hw => c_implND)) ?_
  rintro ⟨a7, b7, c7⟩
  refine VL.new1 (.inl rfl) rfl (by decide) (yn_alloc rfl zero62_NewD rfl) ?_
  intro b2
  refine VL.s (.inl rfl) rfl (yc_store rfl sz62_NewD rfl rfl (by repeat (first | exact UpdF.here | apply UpdF.there | apply UpdF.thereS)) (.inr ⟨rfl, rfl⟩) rfl (by first | exact Nat.le_of_ble_eq_true rfl | simp) (by decide) rfl) ?_
  rintro ⟨⟩
  refine VL.nil ?_
  refine VE.then_wp ?_
  refine V.seq ?_
  refine V.seq ?_
  refine V.region ?_
  refine VL.q (.inl rfl) rfl (by decide) (yq_loadS rfl Try.underlying62 sz62_NewD rfl (by first | exact Sees.root (by assumption) | exact Sees.own (by repeat (first | exact List.mem_cons_self | exact List.mem_append_left _ (by assumption) | apply List.mem_cons_of_mem | apply List.mem_append_right)) | exact Sees.root (hR _ (by omega)) | exact Sees.own (RowsIn.mem (by repeat (first | exact RowsIn.here | exact RowsIn.last | apply RowsIn.there | apply RowsIn.thereS)) _ (by omega)) | exact Sees.own (WRowsIn.mem (by repeat (first | exact WRowsIn.here | exact WRowsIn.last | apply WRowsIn.there | apply WRowsIn.thereS)) _ (by omega))) rfl rfl rfl) ?_
  refine VL.q (.inl rfl) rfl (by decide) (yq_loadS rfl Try.underlying62 sz62_NewD rfl (by first | exact Sees.root (by assumption) | exact Sees.own (by repeat (first | exact List.mem_cons_self | exact List.mem_append_left _ (by assumption) | apply List.mem_cons_of_mem | apply List.mem_append_right)) | exact Sees.root (hR _ (by omega)) | exact Sees.own (RowsIn.mem (by repeat (first | exact RowsIn.here | exact RowsIn.last | apply RowsIn.there | apply RowsIn.thereS)) _ (by omega)) | exact Sees.own (WRowsIn.mem (by repeat (first | exact WRowsIn.here | exact WRowsIn.last | apply WRowsIn.there | apply WRowsIn.thereS)) _ (by omega))) rfl rfl rfl) ?_
  refine VL.q (.inl rfl) rfl (by decide) (yq_callf rfl known36_NewD (.cons rfl (.cons rfl .nil)) (fun w hw => (c_eqDesk (ws := []) (us := []) (ps := []) (qs := []) (f := fun _ => (none, 0)) (f' := fun _ => (none, 0)) (xs := [1065353216]) (ys := [0]) (zs := [1065353216]) (ts := [1065353216]) (rs := [0]) (vs := [1065353216]) (.inl rfl) (fun i h => absurd h (Nat.not_lt_zero i)) (by decide) (.inl rfl) (by decide) (by first | exact Sees.root (by assumption) w hw | exact Sees.own (by repeat (first | exact List.mem_cons_self | exact List.mem_append_left _ (by assumption) | apply List.mem_cons_of_mem | apply List.mem_append_right)) w hw) (by first | exact Sees.root (by assumption) w hw | exact Sees.own (by repeat (first | exact List.mem_cons_self | exact List.mem_append_left _ (by assumption) | apply List.mem_cons_of_mem | apply List.mem_append_right)) w hw) (by first | exact Sees.root (by assumption) w hw | exact Sees.own (by repeat (first | exact List.mem_cons_self | exact List.mem_append_left _ (by assumption) | apply List.mem_cons_of_mem | apply List.mem_append_right)) w hw) (by decide) (.inl rfl) (fun i h => absurd h (Nat.not_lt_zero i)) (.inl rfl) (by first | exact Sees.root (by assumption) w hw | exact Sees.own (by repeat (first | exact List.mem_cons_self | exact List.mem_append_left _ (by assumption) | apply List.mem_cons_of_mem | apply List.mem_append_right)) w hw) (by first | exact Sees.root (by assumption) w hw | exact Sees.own (by repeat (first | exact List.mem_cons_self | exact List.mem_append_left _ (by assumption) | apply List.mem_cons_of_mem | apply List.mem_append_right)) w hw) (by first | exact Sees.root (by assumption) w hw | exact Sees.own (by repeat (first | exact List.mem_cons_self | exact List.mem_append_left _ (by assumption) | apply List.mem_cons_of_mem | apply List.mem_append_right)) w hw) cansW0 cansW0 cans4_nil cans4_nil can_1 can_0 can_1 can_1 can_0 can_1))) ?_
  refine VL.r (.inl rfl) rfl (by decide) (yr_not rfl rfl) ?_
  refine VL.nil ?_
  refine VE.then_wp ?_
  refine V.cond rfl (fun h1 => ?_) (fun h1 => ?_)
  · skip
    replace h1 := bnot_t h1
    first | (exfalso; omega) | (simp [bcmp] at h1; done)
  · skip
    replace h1 := bnot_f h1
    refine V.skip ?_
    refine VE.then_wp ?_
    refine V.seq ?_
    refine V.region ?_
    refine VL.r (.inl rfl) rfl (by decide) (yr_assign (u := .int .i64 1) rfl rfl) ?_
    refine VL.nil ?_
    refine VE.then_wp ?_
    refine V.seq ?_
    refine V.region ?_
    refine VL.q (.inl rfl) rfl (by decide) (yq_loadS rfl Try.underlying62 sz62_NewD rfl (by first | exact Sees.root (by assumption) | exact Sees.own (by repeat (first | exact List.mem_cons_self | exact List.mem_append_left _ (by assumption) | apply List.mem_cons_of_mem | apply List.mem_append_right)) | exact Sees.root (hR _ (by omega)) | exact Sees.own (RowsIn.mem (by repeat (first | exact RowsIn.here | exact RowsIn.last | apply RowsIn.there | apply RowsIn.thereS)) _ (by omega)) | exact Sees.own (WRowsIn.mem (by repeat (first | exact WRowsIn.here | exact WRowsIn.last | apply WRowsIn.there | apply WRowsIn.thereS)) _ (by omega))) rfl rfl rfl) ?_
    refine VL.r (.inl rfl) rfl (by decide) (yr_move rfl rfl) ?_
    refine VL.c (.inl rfl) rfl (by decide) (yc_callf rfl known37_NewD (.cons rfl (.cons rfl .nil)) (by apply Pick.e3; all_goals (repeat (first | exact Rem.here | exact Rem.all | exact Rem.hereS | apply Rem.there | apply Rem.thereS))) (c_markDesk0 (x := 1065353216) (y := 0) (z := 1065353216) (by omega) (by omega))) ?_
    rintro ⟨⟩
    refine VL.r (.inl rfl) rfl (by decide) (yr_assign rfl rfl) ?_
    refine VL.nil ?_
    refine VE.then_wp ?_
    refine V.seq ?_
    refine V.region ?_
    refine VL.r (.inl rfl) rfl (by decide) (yr_assign (u := .int .i64 1) rfl rfl) ?_
    refine VL.nil ?_
    refine VE.then_wp ?_
    refine V.seq ?_
    refine V.region ?_
    refine VL.q (.inl rfl) rfl (by decide) (yq_loadS rfl Try.underlying62 sz62_NewD rfl (by first | exact Sees.root (by assumption) | exact Sees.own (by repeat (first | exact List.mem_cons_self | exact List.mem_append_left _ (by assumption) | apply List.mem_cons_of_mem | apply List.mem_append_right)) | exact Sees.root (hR _ (by omega)) | exact Sees.own (RowsIn.mem (by repeat (first | exact RowsIn.here | exact RowsIn.last | apply RowsIn.there | apply RowsIn.thereS)) _ (by omega)) | exact Sees.own (WRowsIn.mem (by repeat (first | exact WRowsIn.here | exact WRowsIn.last | apply WRowsIn.there | apply WRowsIn.thereS)) _ (by omega))) rfl rfl rfl) ?_
    refine VL.r (.inl rfl) rfl (by decide) (yr_move rfl rfl) ?_
    refine VL.q (.inl rfl) rfl (by decide) (yq_callf rfl known38_NewD (.cons rfl (.cons rfl .nil)) (fun w hw => (c_heldDesk0 (by first | exact Sees.root (by assumption) w hw | exact Sees.own (by repeat (first | exact List.mem_cons_self | exact List.mem_append_left _ (by assumption) | apply List.mem_cons_of_mem | apply List.mem_append_right)) w hw) (by first | exact Sees.root (by assumption) w hw | exact Sees.own (by repeat (first | exact List.mem_cons_self | exact List.mem_append_left _ (by assumption) | apply List.mem_cons_of_mem | apply List.mem_append_right)) w hw) (by first | exact Sees.root (by assumption) w hw | exact Sees.own (by repeat (first | exact List.mem_cons_self | exact List.mem_append_left _ (by assumption) | apply List.mem_cons_of_mem | apply List.mem_append_right)) w hw) (by omega) (by omega)))) ?_
    refine VL.r (.inl rfl) rfl (by decide) (yr_assign rfl rfl) ?_
    refine VL.nil ?_
    refine VE.then_wp ?_
    refine V.seq ?_
    refine V.seq ?_
    refine V.region ?_
    refine VL.r (.inl rfl) rfl (by decide) (yr_move rfl rfl) ?_
    refine VL.r (.inl rfl) rfl (by decide) (yr_icmp rfl (.inr (.inr (.inl rfl))) rfl rfl) ?_
    refine VL.nil ?_
    refine VE.then_wp ?_
    refine V.cond rfl (fun h2 => ?_) (fun h2 => ?_)
    · skip
      replace h2 := ic_lss h2
      first | (exfalso; omega) | (simp [bcmp] at h2; done)
    · skip
      replace h2 := ic_lss' h2
      refine V.skip ?_
      refine VE.then_wp ?_
      refine V.seq ?_
      refine V.seq ?_
      refine V.region ?_
      refine VL.r (.inl rfl) rfl (by decide) (yr_move rfl rfl) ?_
      refine VL.r (.inl rfl) rfl (by decide) (yr_move rfl rfl) ?_
      refine VL.r (.inl rfl) rfl (by decide) (yr_icmp rfl (.inr (.inl rfl)) rfl rfl) ?_
      refine VL.nil ?_
      refine VE.then_wp ?_
      refine V.cond rfl (fun h3 => ?_) (fun h3 => ?_)
      · skip
        replace h3 := ic_neq h3
        first | (exfalso; omega) | (simp [bcmp] at h3; done)
      · skip
        replace h3 := ic_neq' h3
        refine V.skip ?_
        refine VE.then_wp ?_
        refine V.seq ?_
        refine V.region ?_
        refine VL.new (.inl rfl) rfl (by decide) (yn_callf rfl known35_NewD .nil (fun w hw => c_implND)) ?_
        rintro ⟨a23, b23, c23⟩
        refine VL.new1 (.inl rfl) rfl (by decide) (yn_alloc rfl zero62_NewD rfl) ?_
        intro b5
        refine VL.s (.inl rfl) rfl (yc_store rfl sz62_NewD rfl rfl (by repeat (first | exact UpdF.here | apply UpdF.there | apply UpdF.thereS)) (.inr ⟨rfl, rfl⟩) rfl (by first | exact Nat.le_of_ble_eq_true rfl | simp) (by decide) rfl) ?_
        rintro ⟨⟩
        refine VL.nil ?_
        refine VE.then_wp ?_
        refine V.seq ?_
        refine V.seq ?_
        refine V.region ?_
        refine VL.q (.inl rfl) rfl (by decide) (yq_loadS rfl Try.underlying62 sz62_NewD rfl (by first | exact Sees.root (by assumption) | exact Sees.own (by repeat (first | exact List.mem_cons_self | exact List.mem_append_left _ (by assumption) | apply List.mem_cons_of_mem | apply List.mem_append_right)) | exact Sees.root (hR _ (by omega)) | exact Sees.own (RowsIn.mem (by repeat (first | exact RowsIn.here | exact RowsIn.last | apply RowsIn.there | apply RowsIn.thereS)) _ (by omega)) | exact Sees.own (WRowsIn.mem (by repeat (first | exact WRowsIn.here | exact WRowsIn.last | apply WRowsIn.there | apply WRowsIn.thereS)) _ (by omega))) rfl rfl rfl) ?_
        refine VL.q (.inl rfl) rfl (by decide) (yq_loadS rfl Try.underlying62 sz62_NewD rfl (by first | exact Sees.root (by assumption) | exact Sees.own (by repeat (first | exact List.mem_cons_self | exact List.mem_append_left _ (by assumption) | apply List.mem_cons_of_mem | apply List.mem_append_right)) | exact Sees.root (hR _ (by omega)) | exact Sees.own (RowsIn.mem (by repeat (first | exact RowsIn.here | exact RowsIn.last | apply RowsIn.there | apply RowsIn.thereS)) _ (by omega)) | exact Sees.own (WRowsIn.mem (by repeat (first | exact WRowsIn.here | exact WRowsIn.last | apply WRowsIn.there | apply WRowsIn.thereS)) _ (by omega))) rfl rfl rfl) ?_
        refine VL.q (.inl rfl) rfl (by decide) (yq_callf rfl known36_NewD (.cons rfl (.cons rfl .nil)) (fun w hw => (c_eqDesk (ws := []) (us := []) (ps := []) (qs := []) (f := fun _ => (none, 0)) (f' := fun _ => (none, 0)) (xs := [1065353216]) (ys := [0]) (zs := [1065353216]) (ts := [1065353216]) (rs := [0]) (vs := [1065353216]) (.inl rfl) (fun i h => absurd h (Nat.not_lt_zero i)) (by decide) (.inl rfl) (by decide) (by first | exact Sees.root (by assumption) w hw | exact Sees.own (by repeat (first | exact List.mem_cons_self | exact List.mem_append_left _ (by assumption) | apply List.mem_cons_of_mem | apply List.mem_append_right)) w hw) (by first | exact Sees.root (by assumption) w hw | exact Sees.own (by repeat (first | exact List.mem_cons_self | exact List.mem_append_left _ (by assumption) | apply List.mem_cons_of_mem | apply List.mem_append_right)) w hw) (by first | exact Sees.root (by assumption) w hw | exact Sees.own (by repeat (first | exact List.mem_cons_self | exact List.mem_append_left _ (by assumption) | apply List.mem_cons_of_mem | apply List.mem_append_right)) w hw) (by decide) (.inl rfl) (fun i h => absurd h (Nat.not_lt_zero i)) (.inl rfl) (by first | exact Sees.root (by assumption) w hw | exact Sees.own (by repeat (first | exact List.mem_cons_self | exact List.mem_append_left _ (by assumption) | apply List.mem_cons_of_mem | apply List.mem_append_right)) w hw) (by first | exact Sees.root (by assumption) w hw | exact Sees.own (by repeat (first | exact List.mem_cons_self | exact List.mem_append_left _ (by assumption) | apply List.mem_cons_of_mem | apply List.mem_append_right)) w hw) (by first | exact Sees.root (by assumption) w hw | exact Sees.own (by repeat (first | exact List.mem_cons_self | exact List.mem_append_left _ (by assumption) | apply List.mem_cons_of_mem | apply List.mem_append_right)) w hw) cansW0 cansW0 cans4_nil cans4_nil can_1 can_0 can_1 can_1 can_0 can_1))) ?_
        refine VL.r (.inl rfl) rfl (by decide) (yr_not rfl rfl) ?_
        refine VL.nil ?_
        refine VE.then_wp ?_
        refine V.cond rfl (fun h4 => ?_) (fun h4 => ?_)
        · skip
          replace h4 := bnot_t h4
          first | (exfalso; omega) | (simp [bcmp] at h4; done)
        · skip
          replace h4 := bnot_f h4
          refine V.skip ?_
          refine VE.then_wp ?_
          refine V.seq ?_
          refine V.region ?_
          refine VL.r (.inl rfl) rfl (by decide) (yr_assign (u := .int .i64 1) rfl rfl) ?_
          refine VL.nil ?_
          refine VE.then_wp ?_
          refine V.seq ?_
          refine V.region ?_
          refine VL.q (.inl rfl) rfl (by decide) (yq_loadS rfl Try.underlying62 sz62_NewD rfl (by first | exact Sees.root (by assumption) | exact Sees.own (by repeat (first | exact List.mem_cons_self | exact List.mem_append_left _ (by assumption) | apply List.mem_cons_of_mem | apply List.mem_append_right)) | exact Sees.root (hR _ (by omega)) | exact Sees.own (RowsIn.mem (by repeat (first | exact RowsIn.here | exact RowsIn.last | apply RowsIn.there | apply RowsIn.thereS)) _ (by omega)) | exact Sees.own (WRowsIn.mem (by repeat (first | exact WRowsIn.here | exact WRowsIn.last | apply WRowsIn.there | apply WRowsIn.thereS)) _ (by omega))) rfl rfl rfl) ?_
          refine VL.r (.inl rfl) rfl (by decide) (yr_move rfl rfl) ?_
          refine VL.q (.inl rfl) rfl (by decide) (yq_callf rfl known38_NewD (.cons rfl (.cons rfl .nil)) (fun w hw => (c_heldDesk0 (by first | exact Sees.root (by assumption) w hw | exact Sees.own (by repeat (first | exact List.mem_cons_self | exact List.mem_append_left _ (by assumption) | apply List.mem_cons_of_mem | apply List.mem_append_right)) w hw) (by first | exact Sees.root (by assumption) w hw | exact Sees.own (by repeat (first | exact List.mem_cons_self | exact List.mem_append_left _ (by assumption) | apply List.mem_cons_of_mem | apply List.mem_append_right)) w hw) (by first | exact Sees.root (by assumption) w hw | exact Sees.own (by repeat (first | exact List.mem_cons_self | exact List.mem_append_left _ (by assumption) | apply List.mem_cons_of_mem | apply List.mem_append_right)) w hw) (by omega) (by omega)))) ?_
          refine VL.r (.inl rfl) rfl (by decide) (yr_assign rfl rfl) ?_
          refine VL.nil ?_
          refine VE.then_wp ?_
          refine V.seq ?_
          refine V.seq ?_
          refine V.region ?_
          refine VL.r (.inl rfl) rfl (by decide) (yr_move rfl rfl) ?_
          refine VL.r (.inl rfl) rfl (by decide) (yr_icmp rfl (.inr (.inr (.inl rfl))) rfl rfl) ?_
          refine VL.nil ?_
          refine VE.then_wp ?_
          refine V.cond rfl (fun h5 => ?_) (fun h5 => ?_)
          · skip
            replace h5 := ic_lss h5
            first | (exfalso; omega) | (simp [bcmp] at h5; done)
          · skip
            replace h5 := ic_lss' h5
            refine V.skip ?_
            refine VE.then_wp ?_
            refine V.seq ?_
            refine V.seq ?_
            refine V.region ?_
            refine VL.r (.inl rfl) rfl (by decide) (yr_move rfl rfl) ?_
            refine VL.r (.inl rfl) rfl (by decide) (yr_move rfl rfl) ?_
            refine VL.r (.inl rfl) rfl (by decide) (yr_icmp rfl (.inr (.inl rfl)) rfl rfl) ?_
            refine VL.nil ?_
            refine VE.then_wp ?_
            refine V.cond rfl (fun h6 => ?_) (fun h6 => ?_)
            · skip
              replace h6 := ic_neq h6
              first | (exfalso; omega) | (simp [bcmp] at h6; done)
            · skip
              replace h6 := ic_neq' h6
              refine V.skip ?_
              refine VE.then_wp ?_
              refine V.seq ?_
              refine V.region ?_
              refine VL.r (.inl rfl) rfl (by decide) (yr_assign (u := .bool true) rfl rfl) ?_
              refine VL.nil ?_
              refine VE.then_wp ?_
              refine V.ret ?_
              refine ret1 rfl rfl (fun w1 hw => ?_)
              exact ⟨rfl, hw.below⟩

end Go.Proofs.Ytacjcomjnabmhaa
