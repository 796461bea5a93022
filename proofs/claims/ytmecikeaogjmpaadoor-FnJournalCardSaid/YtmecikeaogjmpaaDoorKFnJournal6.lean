/- Own texts of this claim, merged: WDw, WDz, WJo, Way, Bld, Ji. -/
import Derived.KernelRfl
import Derived.Shelf.Strings.Builder1
import Derived.Shelf.Strings.BuilderF
import Derived.Test.YtmecikeaogjmpaaDoorProg
import Derived.Test.YtmecikeaogjmpaaDoorKFnJournal5
namespace Go.Proofs.YtmecikeaogjmpaaDoor
open Go.RowKit
set_option linter.unusedVariables false
set_option linter.unusedSimpArgs false
set_option maxRecDepth 20000

theorem zero41_Dw : (Tryd.prog.info? 41).bind (·.zero) = some (Value.agg #[Value.slice none 0 0, Value.slice none 0 0, Value.slice none 0 0]) := by kernel_rfl
theorem known35_Dw : Known Tryd.prog 35 := Known.mk' Tryd.func35 (by kernel_rfl)
theorem elt90_Dw : Elt Tryd.prog 90 [Value.float .f32 0] 4 := Elt.mk' (by kernel_rfl) (by decide)
theorem lay41_Dw : Lay Tryd.prog 41 [Value.slice none 0 0, Value.slice none 0 0, Value.slice none 0 0] [(0, 1), (1, 1), (2, 1)] := Lay.mk' (by kernel_rfl) (by kernel_rfl)
theorem sz41_Dw : (Tryd.prog.info? 41).map (·.size) = some 3 := by kernel_rfl
theorem mixed_Dw : Tryd.prog.follows .mixedOrders = true := by kernel_rfl
theorem sz39_Dw : (Tryd.prog.info? 39).map (·.size) = some 1 := by kernel_rfl
theorem fb39_Dw : flatB Tryd.prog 39 = true := by kernel_rfl
theorem sz90_Dw : (Tryd.prog.info? 90).map (·.size) = some 1 := by kernel_rfl
theorem zero43_Dw : (Tryd.prog.info? 43).bind (·.zero) = some (Value.agg #[Value.slice none 0 0, Value.slice none 0 0, Value.slice none 0 0, Value.slice none 0 0, Value.slice none 0 0]) := by kernel_rfl
theorem elt93_Dw : Elt Tryd.prog 93 [Value.slice none 0 0, Value.bool false, Value.float .f32 0] 32 := Elt.mk' (by kernel_rfl) (by decide)
theorem elt104_Dw : Elt Tryd.prog 104 [Value.float .f32 0, Value.float .f32 0, Value.float .f32 0, Value.float .f32 0] 16 := Elt.mk' (by kernel_rfl) (by decide)
theorem known59_Dw : Known Tryd.prog 59 := Known.mk' Tryd.func59 (by kernel_rfl)
theorem lay43_Dw : Lay Tryd.prog 43 [Value.slice none 0 0, Value.slice none 0 0, Value.slice none 0 0, Value.slice none 0 0, Value.slice none 0 0] [(0, 1), (1, 1), (2, 3)] := Lay.mk' (by kernel_rfl) (by kernel_rfl)
theorem sz43_Dw : (Tryd.prog.info? 43).map (·.size) = some 5 := by kernel_rfl
theorem sz37_Dw : (Tryd.prog.info? 37).map (·.size) = some 1 := by kernel_rfl
theorem fb37_Dw : flatB Tryd.prog 37 = true := by kernel_rfl
theorem known51_Dw : Known Tryd.prog 51 := Known.mk' Tryd.func51 (by kernel_rfl)
theorem sz38_Dw : (Tryd.prog.info? 38).map (·.size) = some 1 := by kernel_rfl
theorem fb38_Dw : flatB Tryd.prog 38 = true := by kernel_rfl
theorem known57_Dw : Known Tryd.prog 57 := Known.mk' Tryd.func57 (by kernel_rfl)
attribute [local irreducible] fop fcmp fconv fneg fabs List.getD qw hqw w2w g2w uw sb stb dec

theorem c_dcirc {w0 : World} {a : Option Addr} {c q n sd : Nat} {bs : List Int} (hA : Cl w0 a (bl bs)) (hb : Bytes bs) (hl : bs.length ≤ 2000000) (hn : n ≤ 99000) (hsd : sd < 18446744073709551616) : Mut Tryd.prog 59 [.pointer (some (adr (some ⟨q, 0, none⟩) 0))] w0 [⟨some ⟨q, 0, none⟩, [.slice a bs.length c, .int .i64 ((n : Nat) : Int), .int .u64 ((sd : Nat) : Int)], 3, 87⟩] (fun x : {x : (((Option Addr × Nat) × List Nat) × ((Option Addr × Nat) × List Nat) × ((Option Addr × Nat) × List Nat)) × Nat × Nat // (x.1.1.2.length ≤ 3 ∧ x.1.2.1.2.length ≤ 3 ∧ x.1.2.2.2.length ≤ 9) ∧ x.2.2 < 18446744073709551616 ∧ n ≤ x.2.1 ∧ x.2.1 ≤ n + 60} => .agg #[.slice x.1.1.1.1.1 x.1.1.1.2.length x.1.1.1.1.2, .slice x.1.1.2.1.1.1 x.1.1.2.1.2.length x.1.1.2.1.1.2, .slice x.1.1.2.2.1.1 x.1.1.2.2.2.length x.1.1.2.2.1.2]) (fun x => [⟨some ⟨q, 0, none⟩, [.slice a bs.length c, .int .i64 ((x.1.2.1 : Nat) : Int), .int .u64 ((x.1.2.2 : Nat) : Int)], 3, 87⟩, ⟨x.1.1.1.1.1, fl x.1.1.1.2, x.1.1.1.1.2 * 1, 90⟩, ⟨x.1.1.2.1.1.1, fl x.1.1.2.1.2, x.1.1.2.1.1.2 * 1, 90⟩, ⟨x.1.1.2.2.1.1, fl x.1.1.2.2.2, x.1.1.2.2.1.2 * 1, 90⟩]) := by
  refine Mut.enter Tryd.func59 rfl Tryd.ntmps59 (Nat.le_of_ble_eq_true rfl) ?_
  intro F
  haveI hne9 : Nonempty {x : Nat × Nat // x.1 < 9 ∧ x.2 < 18446744073709551616} := ⟨⟨(0, 0), by decide, by decide⟩⟩
  haveI hne8 : Nonempty {x : Nat × Nat // x.1 < 8 ∧ x.2 < 18446744073709551616} := ⟨⟨(0, 0), by decide, by decide⟩⟩
  haveI hne7 : Nonempty {x : Nat × Nat // x.1 < 7 ∧ x.2 < 18446744073709551616} := ⟨⟨(0, 0), by decide, by decide⟩⟩
  refine V.seq ?_
  refine V.region ?_
  refine VL.new1 (.inl rfl) rfl (by decide) (yn_alloc rfl zero41_Dw rfl) ?_
  intro b2
  refine VL.nil ?_
  refine VE.then_wp ?_
  refine V.seq ?_
  refine V.region ?_
  refine VL.r (.inl rfl) rfl (by decide) (yr_move rfl rfl) ?_
  refine VL.c (.inl rfl) rfl (by decide) (yc_callf rfl known35_Dw (.cons rfl (.cons rfl .nil)) (by apply Pick.one; repeat (first | exact Rem.here | apply Rem.there | apply Rem.thereS)) (c_pick (m := 3) (n := n) hA hb hl (by (try dsimp only); omega) (by (try dsimp only); omega) (by decide) (by decide))) ?_
  rintro ⟨⟨x9, s9⟩, hx9, hs9⟩
  dsimp only at hx9 hs9
  refine VL.r (.inl rfl) rfl (by decide) (yr_addN (1 + x9) rfl rfl rfl (by push_cast; rfl) (by omega)) ?_
  refine VL.r (.inl rfl) rfl (by decide) (yr_assign rfl rfl) ?_
  refine VL.nil ?_
  refine VE.then_wp ?_
  refine V.seq ?_
  refine V.region ?_
  refine VL.r (.inl rfl) rfl (by decide) (yr_move rfl rfl) ?_
  refine VL.r (.inl rfl) rfl (by decide) (yr_move rfl rfl) ?_
  refine VL.r (.inl rfl) rfl (by decide) (yr_mulN (1 + x9) (1 + x9) rfl rfl rfl (by omega) (by omega) (Nat.le_trans (by first | exact q0 | (have := Nat.mul_le_mul (show xs.length ≤ 3 by omega) (show 1 + x9 ≤ 3 by omega); exact this) | (have := Nat.mul_le_mul (show j ≤ 3 by omega) (show 1 + x9 ≤ 3 by omega); exact this) | (have := Nat.mul_le_mul (show 1 + x9 ≤ 3 by omega) (show 1 + x9 ≤ 3 by omega); exact this)) (by decide))) ?_
  refine VL.new1 (.inl rfl) rfl (by decide) (yn_makeSlicez 1 rfl rfl Tryd.underlying39 elt90_Dw rfl rfl rfl (by have := Nat.mul_le_mul (show 1 + x9 ≤ 3 by omega) (show 1 + x9 ≤ 3 by omega); omega) (by have := Nat.mul_le_mul (show 1 + x9 ≤ 3 by omega) (show 1 + x9 ≤ 3 by omega); omega)) ?_
  intro b14
  refine VL.r (.inl rfl) rfl (by decide) (yr_build rfl lay41_Dw rfl (.cons rfl .nil) (by first | (simp; done) | (simp [vv]; done) | (simp [cn, cn1, cn0]; done)) rfl) ?_
  refine VL.new1 (.inl rfl) rfl (by decide) (yn_alloc rfl zero41_Dw rfl) ?_
  intro b4
  refine VL.s (.inl rfl) rfl (yc_store rfl sz41_Dw rfl rfl (by repeat (first | exact UpdF.here | apply UpdF.there | apply UpdF.thereS)) (.inr ⟨rfl, rfl⟩) rfl (by first | exact Nat.le_of_ble_eq_true rfl | simp) (by decide) rfl) ?_
  rintro ⟨⟩
  refine VL.nil ?_
  refine VE.then_wp ?_
  refine V.seq ?_
  refine V.seq ?_
  refine V.region ?_
  refine VL.r (.inl rfl) rfl (by decide) (yr_assign (u := .int .i64 0) rfl rfl) ?_
  refine VL.nil ?_
  refine VE.then_wp ?_
  refine V.block ?_
  refine V.loopc (G := (List Nat) × (Option Addr) × Nat × (List Nat) × (Option Addr) × Nat × (List Nat) × Nat × Nat) [(0, _), (2, _), (3, _), (4, _)] (fun ⟨xs, a1, c1, ys, a2, c2, zs, nn, sd1⟩ => xs.length ≤ 1 + x9 ∧ ys.length = xs.length ∧ zs.length = ((1 + x9) * (1 + x9)) ∧ (n ≤ nn ∧ nn ≤ n + 1 + 9 * xs.length) ∧ sd1 < 18446744073709551616) (fun ⟨xs, a1, c1, ys, a2, c2, zs, nn, sd1⟩ => (⟨some ⟨b4, 0, none⟩, [.slice a1 xs.length c1, .slice a2 ys.length c2, .slice (some ⟨b14, 0, none⟩) ((1 + x9) * (1 + x9)) ((1 + x9) * (1 + x9))], 3, 41⟩ :: ⟨a1, fl xs, c1 * 1, 90⟩ :: ⟨a2, fl ys, c2 * 1, 90⟩ :: ⟨some ⟨b14, 0, none⟩, fl zs, ((1 + x9) * (1 + x9)) * 1, 90⟩ :: ⟨some ⟨q, 0, none⟩, [.slice a bs.length c, .int .i64 ((nn : Nat) : Int), .int .u64 ((sd1 : Nat) : Int)], 3, 87⟩ :: ⟨some ⟨b2, 0, none⟩, [.slice none 0 0, .slice none 0 0, .slice none 0 0], 3, 41⟩ :: F)) (fun ⟨xs, a1, c1, ys, a2, c2, zs, nn, sd1⟩ => [(5, .int .i64 (xs.length : Int))]) (fun ⟨xs, a1, c1, ys, a2, c2, zs, nn, sd1⟩ => 1 + x9 - xs.length) ([], none, 0, [], none, 0, List.replicate ((1 + x9) * (1 + x9)) 0, n + 1, s9) (.cons rfl (.cons rfl (.cons rfl (.cons rfl .nil)))) (.cons rfl .nil) ?_ ?_ ?_
  · exact (fun w hw => by
      have h9 := (hw.nilU 90).nilU 90
      dsimp only
      rw [fl_zeros] at h9
      exact h9.pick (by apply Pick.cons1; (· repeat (first | exact Rem.here | exact Rem.all | exact Rem.hereS | apply Rem.there | apply Rem.thereS)); apply Pick.cons1; (· repeat (first | exact Rem.here | exact Rem.all | exact Rem.hereS | apply Rem.there | apply Rem.thereS)); apply Pick.cons1; (· repeat (first | exact Rem.here | exact Rem.all | exact Rem.hereS | apply Rem.there | apply Rem.thereS)); apply Pick.cons1; (· repeat (first | exact Rem.here | exact Rem.all | exact Rem.hereS | apply Rem.there | apply Rem.thereS)); apply Pick.cons1; (· repeat (first | exact Rem.here | exact Rem.all | exact Rem.hereS | apply Rem.there | apply Rem.thereS)); apply Pick.cons1; (· repeat (first | exact Rem.here | exact Rem.all | exact Rem.hereS | apply Rem.there | apply Rem.thereS)); apply Pick.last; repeat (first | exact Rem.here | exact Rem.all | exact Rem.hereS | apply Rem.there | apply Rem.thereS)))
  · exact (by exact ⟨Nat.zero_le _, rfl, List.length_replicate, ⟨by omega, by (try dsimp only); simp only [List.length_nil]; omega⟩, hs9⟩)
  rintro ⟨xs, a1, c1, ys, a2, c2, zs, nn, sd1⟩ ⟨hl9, hy9, hz9, hn9, hd9⟩
  show V _ _ _ (⟨some ⟨b4, 0, none⟩, [.slice a1 xs.length c1, .slice a2 ys.length c2, .slice (some ⟨b14, 0, none⟩) ((1 + x9) * (1 + x9)) ((1 + x9) * (1 + x9))], 3, 41⟩ :: ⟨a1, fl xs, c1 * 1, 90⟩ :: ⟨a2, fl ys, c2 * 1, 90⟩ :: ⟨some ⟨b14, 0, none⟩, fl zs, ((1 + x9) * (1 + x9)) * 1, 90⟩ :: ⟨some ⟨q, 0, none⟩, [.slice a bs.length c, .int .i64 ((nn : Nat) : Int), .int .u64 ((sd1 : Nat) : Int)], 3, 87⟩ :: ⟨some ⟨b2, 0, none⟩, [.slice none 0 0, .slice none 0 0, .slice none 0 0], 3, 41⟩ :: F) ([(5, .int .i64 (xs.length : Int))] ++ [(0, _), (2, _), (3, _), (4, _)]) _ _
  refine V.seq ?_
  refine V.seq ?_
  refine V.region ?_
  refine VL.r (.inl rfl) rfl (by decide) (yr_move rfl rfl) ?_
  refine VL.r (.inl rfl) rfl (by decide) (yr_move rfl rfl) ?_
  refine VL.r (.inl rfl) rfl (by decide) (yr_icmp rfl (.inr (.inr (.inl rfl))) rfl rfl) ?_
  refine VL.nil ?_
  refine VE.then_wp ?_
  refine V.cond rfl (fun h1 => ?_) (fun h1 => ?_)
  · skip
    replace h1 := ic_lss h1
    have hi9 : xs.length < 1 + x9 := by omega
    have q1 := sq_lt hi9 hi9
    have q0 := Nat.mul_le_mul (show 1 + x9 ≤ 3 by omega) (show 1 + x9 ≤ 3 by omega)
    refine V.skip ?_
    refine VE.then_wp ?_
    refine V.seq ?_
    refine V.block ?_
    refine V.seq ?_
    refine Dr.V.drawR [(0, 5), (1, 5), (2, 5), (3, 3), (4, 5), (5, 5), (6, 1), (7, 3), (8, 5), (9, 4)] [] [⟨some ⟨q, 0, none⟩, [.slice a bs.length c, .int .i64 ((nn : Nat) : Int), .int .u64 ((sd1 : Nat) : Int)], 3, 87⟩, ⟨a1, fl xs, c1 * 1, 90⟩] _ mixed_Dw (by kernel_rfl) (fun w hw => Hp.pickS hw (by apply Pick.e2; all_goals (repeat (first | exact Rem.here | exact Rem.all | exact Rem.hereS | apply Rem.there | apply Rem.thereS)))) ?_
    refine Dr.SW.r rfl (.inl rfl) rfl (by decide) (yr_fieldAddr rfl Tryd.underlying41 rfl rfl sz39_Dw (by decide) rfl) ?_
    refine Dr.SW.p rfl (.inl rfl) rfl (by decide) (yq_load rfl fb39_Dw rfl (by first | exact Sees.root (by assumption) | exact Sees.own (by (try simp only [List.append_assoc, List.cons_append, List.nil_append]); repeat (first | exact List.mem_cons_self | exact List.mem_append_left _ (by assumption) | apply List.mem_cons_of_mem | apply List.mem_append_right)) | exact Sees.root (hR _ (by omega)) | exact Sees.own (RowsIn.mem (by (try simp only [List.append_assoc, List.cons_append, List.nil_append]); repeat (first | exact RowsIn.here | exact RowsIn.last | apply RowsIn.there | apply RowsIn.thereS)) _ (by omega)) | exact Sees.own (WRowsIn.mem (by (try simp only [List.append_assoc, List.cons_append, List.nil_append]); repeat (first | exact WRowsIn.here | exact WRowsIn.last | apply WRowsIn.there | apply WRowsIn.thereS)) _ (by omega))) rfl) ?_
    refine Dr.SW.r rfl (.inl rfl) rfl (by decide) (yr_move rfl rfl) ?_
    refine Dr.SW.c rfl (.inl rfl) rfl (by decide) (yc_callfR rfl known35_Dw (.cons rfl (.cons rfl .nil)) (by apply Pick.one; repeat (first | exact Rem.here | exact Rem.all | exact Rem.hereS | apply Rem.there | apply Rem.thereS)) (c_pick (m := 9) (n := nn) hA hb hl (by (try dsimp only); omega) (by (try dsimp only); omega) (by decide) (by decide))) ?_
    rintro ⟨⟨x24, s24⟩, hx24, hs24⟩
    dsimp only at hx24 hs24
    refine Dr.SW.r rfl (.inl rfl) rfl (by decide) (yr_ofInt rfl Tryd.underlying2 Tryd.underlying90 rfl) ?_
    refine Dr.SW.r rfl (.inl rfl) rfl (by decide) (yr_float (b := 1082130432) rfl (.inr (.inr (.inr rfl))) rfl rfl) ?_
    refine Dr.SW.new1 rfl (.inl rfl) rfl (by decide) (yn_lit rfl Tryd.underlying39 elt90_Dw rfl (by decide) (.cons rfl .nil) (by first | (simp; done) | (simp [cn, cn1, cn0]; done)) rfl rfl rfl) ?_
    intro b27
    refine Dr.SW.c rfl (.inl rfl) rfl (by decide) (yc_appendz 1 rfl rfl Tryd.underlying39 elt90_Dw rfl rfl (Dr.UpdF.app (by repeat (first | exact UpdF.here | apply UpdF.there | apply UpdF.thereS))) (by first | exact Sees.root (by assumption) | exact Sees.own (by (try simp only [List.append_assoc, List.cons_append, List.nil_append]); repeat (first | exact List.mem_cons_self | exact List.mem_append_left _ (by assumption) | apply List.mem_cons_of_mem | apply List.mem_append_right)) | exact Sees.root (hR _ (by omega)) | exact Sees.own (RowsIn.mem (by (try simp only [List.append_assoc, List.cons_append, List.nil_append]); repeat (first | exact RowsIn.here | exact RowsIn.last | apply RowsIn.there | apply RowsIn.thereS)) _ (by omega)) | exact Sees.own (WRowsIn.mem (by (try simp only [List.append_assoc, List.cons_append, List.nil_append]); repeat (first | exact WRowsIn.here | exact WRowsIn.last | apply WRowsIn.there | apply WRowsIn.thereS)) _ (by omega))) rfl (by rw [fl_length, Nat.mul_one]) rfl (by first | rfl | exact fl_scal _) rfl (by omega) (by omega)) ?_
    rintro ⟨a28, c28⟩
    refine Dr.SW.r rfl (.inl rfl) rfl (by decide) (yr_fieldAddr rfl Tryd.underlying41 rfl rfl sz39_Dw (by decide) rfl) ?_
    refine Dr.SW.t rfl (.inl rfl) rfl (yc_store rfl sz39_Dw rfl rfl (by repeat (first | exact UpdF.here | apply UpdF.there | apply UpdF.thereS)) (.inl ⟨rfl, rfl⟩) rfl (by first | exact Nat.le_of_ble_eq_true rfl | simp) (by decide) rfl) ?_
    rintro ⟨⟩
    refine Dr.SW.done ?_
    refine Dr.eqO (by simp only [List.append_nil, List.append_assoc, List.cons_append, List.nil_append] <;> rfl) ?_
    refine VE.then_wp ?_
    refine V.seq ?_
    refine Dr.V.drawR [(0, 5), (1, 5), (2, 5), (3, 3), (4, 5), (5, 5), (6, 1), (7, 3), (8, 5), (9, 4)] [] [⟨some ⟨q, 0, none⟩, [.slice a bs.length c, .int .i64 ((nn + 1 : Nat) : Int), .int .u64 ((s24 : Nat) : Int)], 3, 87⟩, ⟨a2, fl ys, c2 * 1, 90⟩] _ mixed_Dw (by kernel_rfl) (fun w hw => Hp.pickS hw (by apply Pick.e2; all_goals (repeat (first | exact Rem.here | exact Rem.all | exact Rem.hereS | apply Rem.there | apply Rem.thereS)))) ?_
    refine Dr.SW.r rfl (.inl rfl) rfl (by decide) (yr_fieldAddr rfl Tryd.underlying41 rfl rfl sz39_Dw (by decide) rfl) ?_
    refine Dr.SW.p rfl (.inl rfl) rfl (by decide) (yq_load rfl fb39_Dw rfl (by first | exact Sees.root (by assumption) | exact Sees.own (by (try simp only [List.append_assoc, List.cons_append, List.nil_append]); repeat (first | exact List.mem_cons_self | exact List.mem_append_left _ (by assumption) | apply List.mem_cons_of_mem | apply List.mem_append_right)) | exact Sees.root (hR _ (by omega)) | exact Sees.own (RowsIn.mem (by (try simp only [List.append_assoc, List.cons_append, List.nil_append]); repeat (first | exact RowsIn.here | exact RowsIn.last | apply RowsIn.there | apply RowsIn.thereS)) _ (by omega)) | exact Sees.own (WRowsIn.mem (by (try simp only [List.append_assoc, List.cons_append, List.nil_append]); repeat (first | exact WRowsIn.here | exact WRowsIn.last | apply WRowsIn.there | apply WRowsIn.thereS)) _ (by omega))) rfl) ?_
    refine Dr.SW.r rfl (.inl rfl) rfl (by decide) (yr_move rfl rfl) ?_
    refine Dr.SW.c rfl (.inl rfl) rfl (by decide) (yc_callfR rfl known35_Dw (.cons rfl (.cons rfl .nil)) (by apply Pick.one; repeat (first | exact Rem.here | exact Rem.all | exact Rem.hereS | apply Rem.there | apply Rem.thereS)) (c_pick (m := 9) (n := nn + 1) hA hb hl (by (try dsimp only); omega) (by (try dsimp only); omega) (by decide) (by decide))) ?_
    rintro ⟨⟨x33, s33⟩, hx33, hs33⟩
    dsimp only at hx33 hs33
    refine Dr.SW.r rfl (.inl rfl) rfl (by decide) (yr_ofInt rfl Tryd.underlying2 Tryd.underlying90 rfl) ?_
    refine Dr.SW.r rfl (.inl rfl) rfl (by decide) (yr_float (b := 1073741824) rfl (.inr (.inr (.inr rfl))) rfl rfl) ?_
    refine Dr.SW.new1 rfl (.inl rfl) rfl (by decide) (yn_lit rfl Tryd.underlying39 elt90_Dw rfl (by decide) (.cons rfl .nil) (by first | (simp; done) | (simp [cn, cn1, cn0]; done)) rfl rfl rfl) ?_
    intro b36
    refine Dr.SW.c rfl (.inl rfl) rfl (by decide) (yc_appendz 1 rfl rfl Tryd.underlying39 elt90_Dw rfl rfl (Dr.UpdF.app (by repeat (first | exact UpdF.here | apply UpdF.there | apply UpdF.thereS))) (by first | exact Sees.root (by assumption) | exact Sees.own (by (try simp only [List.append_assoc, List.cons_append, List.nil_append]); repeat (first | exact List.mem_cons_self | exact List.mem_append_left _ (by assumption) | apply List.mem_cons_of_mem | apply List.mem_append_right)) | exact Sees.root (hR _ (by omega)) | exact Sees.own (RowsIn.mem (by (try simp only [List.append_assoc, List.cons_append, List.nil_append]); repeat (first | exact RowsIn.here | exact RowsIn.last | apply RowsIn.there | apply RowsIn.thereS)) _ (by omega)) | exact Sees.own (WRowsIn.mem (by (try simp only [List.append_assoc, List.cons_append, List.nil_append]); repeat (first | exact WRowsIn.here | exact WRowsIn.last | apply WRowsIn.there | apply WRowsIn.thereS)) _ (by omega))) rfl (by rw [fl_length, Nat.mul_one]) rfl (by first | rfl | exact fl_scal _) rfl (by omega) (by omega)) ?_
    rintro ⟨a37, c37⟩
    refine Dr.SW.r rfl (.inl rfl) rfl (by decide) (yr_fieldAddr rfl Tryd.underlying41 rfl rfl sz39_Dw (by decide) rfl) ?_
    refine Dr.SW.t rfl (.inl rfl) rfl (yc_store rfl sz39_Dw rfl rfl (by repeat (first | exact UpdF.here | apply UpdF.there | apply UpdF.thereS)) (.inl ⟨rfl, rfl⟩) rfl (by first | exact Nat.le_of_ble_eq_true rfl | simp) (by decide) rfl) ?_
    rintro ⟨⟩
    refine Dr.SW.done ?_
    refine Dr.eqO (by simp only [List.append_nil, List.append_assoc, List.cons_append, List.nil_append] <;> rfl) ?_
    refine VE.then_wp ?_
    refine V.seq ?_
    refine Dr.V.drawR [(0, 5), (1, 5), (2, 5), (3, 5), (4, 5), (5, 5), (6, 5), (7, 5), (8, 3), (9, 5), (10, 5), (11, 5), (12, 5), (13, 4)] [] [⟨some ⟨q, 0, none⟩, [.slice a bs.length c, .int .i64 ((nn + 1 + 1 : Nat) : Int), .int .u64 ((s33 : Nat) : Int)], 3, 87⟩] _ mixed_Dw (by kernel_rfl) (fun w hw => Hp.pickS hw (by apply Pick.one; repeat (first | exact Rem.here | exact Rem.all | exact Rem.hereS | apply Rem.there | apply Rem.thereS))) ?_
    refine Dr.SW.r rfl (.inl rfl) rfl (by decide) (yr_fieldAddr rfl Tryd.underlying41 rfl rfl sz39_Dw (by decide) rfl) ?_
    refine Dr.SW.p rfl (.inl rfl) rfl (by decide) (yq_load rfl fb39_Dw rfl (by first | exact Sees.root (by assumption) | exact Sees.own (by (try simp only [List.append_assoc, List.cons_append, List.nil_append]); repeat (first | exact List.mem_cons_self | exact List.mem_append_left _ (by assumption) | apply List.mem_cons_of_mem | apply List.mem_append_right)) | exact Sees.root (hR _ (by omega)) | exact Sees.own (RowsIn.mem (by (try simp only [List.append_assoc, List.cons_append, List.nil_append]); repeat (first | exact RowsIn.here | exact RowsIn.last | apply RowsIn.there | apply RowsIn.thereS)) _ (by omega)) | exact Sees.own (WRowsIn.mem (by (try simp only [List.append_assoc, List.cons_append, List.nil_append]); repeat (first | exact WRowsIn.here | exact WRowsIn.last | apply WRowsIn.there | apply WRowsIn.thereS)) _ (by omega))) rfl) ?_
    refine Dr.SW.r rfl (.inl rfl) rfl (by decide) (yr_move rfl rfl) ?_
    refine Dr.SW.r rfl (.inl rfl) rfl (by decide) (yr_move rfl rfl) ?_
    refine Dr.SW.r rfl (.inl rfl) rfl (by decide) (yr_mulN xs.length (1 + x9) rfl rfl rfl (by omega) (by omega) (Nat.le_trans (by first | exact q0 | (have := Nat.mul_le_mul (show xs.length ≤ 3 by omega) (show 1 + x9 ≤ 3 by omega); exact this) | (have := Nat.mul_le_mul (show j ≤ 3 by omega) (show 1 + x9 ≤ 3 by omega); exact this) | (have := Nat.mul_le_mul (show 1 + x9 ≤ 3 by omega) (show 1 + x9 ≤ 3 by omega); exact this)) (by decide))) ?_
    refine Dr.SW.r rfl (.inl rfl) rfl (by decide) (yr_move rfl rfl) ?_
    refine Dr.SW.r rfl (.inl rfl) rfl (by decide) (yr_int rfl rfl rfl (.inl ⟨rfl, wrap_in (by (try dsimp only); omega)⟩)) ?_
    refine Dr.SW.r rfl (.inl rfl) rfl (by decide) (yr_move rfl rfl) ?_
    refine Dr.SW.c rfl (.inl rfl) rfl (by decide) (yc_callfR rfl known35_Dw (.cons rfl (.cons rfl .nil)) (by apply Pick.one; repeat (first | exact Rem.here | exact Rem.all | exact Rem.hereS | apply Rem.there | apply Rem.thereS)) (c_pick (m := 8) (n := nn + 1 + 1) hA hb hl (by (try dsimp only); omega) (by (try dsimp only); omega) (by decide) (by decide))) ?_
    rintro ⟨⟨x47, s47⟩, hx47, hs47⟩
    dsimp only at hx47 hs47
    refine Dr.SW.r rfl (.inl rfl) rfl (by decide) (yr_int rfl rfl rfl (.inl ⟨rfl, wrap_in (by (try dsimp only); omega)⟩)) ?_
    refine Dr.SW.r rfl (.inl rfl) rfl (by decide) (yr_ofInt rfl Tryd.underlying2 Tryd.underlying90 rfl) ?_
    refine Dr.SW.r rfl (.inl rfl) rfl (by decide) (yr_float (b := 1073741824) rfl (.inr (.inr (.inr rfl))) rfl rfl) ?_
    refine Dr.SW.p rfl (.inl rfl) rfl (by decide) (yq_idx (k := ((xs.length * (1 + x9)) + xs.length)) rfl Tryd.underlying39 sz90_Dw rfl rfl (by first | exact Sees.root (by assumption) | exact Sees.own (by (try simp only [List.append_assoc, List.cons_append, List.nil_append]); repeat (first | exact List.mem_cons_self | exact List.mem_append_left _ (by assumption) | apply List.mem_cons_of_mem | apply List.mem_append_right)) | exact Sees.root (hR _ (by omega)) | exact Sees.own (RowsIn.mem (by (try simp only [List.append_assoc, List.cons_append, List.nil_append]); repeat (first | exact RowsIn.here | exact RowsIn.last | apply RowsIn.there | apply RowsIn.thereS)) _ (by omega)) | exact Sees.own (WRowsIn.mem (by (try simp only [List.append_assoc, List.cons_append, List.nil_append]); repeat (first | exact WRowsIn.here | exact WRowsIn.last | apply WRowsIn.there | apply WRowsIn.thereS)) _ (by omega))) (by first | rfl | omega | (push_cast; rfl) | (push_cast; omega) | exact tmod_nat _ _) (by rw [fl_length]; first | exact hz9 | exact hz8 | (rw [List.length_set]; first | exact hz9 | exact hz8)) (by first | exact q1 | exact q2 | exact q3 | omega)) ?_
    refine Dr.SW.t rfl (.inl rfl) rfl (yc_store rfl sz90_Dw rfl rfl (by repeat (first | exact UpdF.here | apply UpdF.there | apply UpdF.thereS)) (.inl ⟨rfl, rfl⟩) rfl (by simp only [fl_length, List.length_set]; first | (rw [hz9]; first | exact q1 | exact q2 | exact q3) | (rw [hz8]; first | exact q1 | exact q2 | exact q3) | omega) (by decide) (fl_set _ _ _)) ?_
    rintro ⟨⟩
    refine Dr.SW.done ?_
    refine Dr.eqO (by simp only [List.append_nil, List.append_assoc, List.cons_append, List.nil_append] <;> rfl) ?_
    refine VE.then_wp ?_
    refine V.seq ?_
    refine V.region ?_
    refine VL.r (.inl rfl) rfl (by decide) (yr_assign (u := .int .i64 0) rfl rfl) ?_
    refine VL.nil ?_
    refine VE.then_wp ?_
    refine V.block ?_
    refine V.loopc (G := Nat × (List Nat) × Nat × Nat) [(0, _), (2, _), (3, _), (4, _), (5, _)] (fun ⟨j, zs1, nn1, sd2⟩ => j ≤ xs.length ∧ zs1.length = ((1 + x9) * (1 + x9)) ∧ (n ≤ nn1 ∧ nn1 ≤ nn + 3 + j) ∧ sd2 < 18446744073709551616) (fun ⟨j, zs1, nn1, sd2⟩ => (⟨some ⟨b4, 0, none⟩, [.slice a28 (xs.length + 1) c28, .slice a37 (ys.length + 1) c37, .slice (some ⟨b14, 0, none⟩) ((1 + x9) * (1 + x9)) ((1 + x9) * (1 + x9))], 3, 41⟩ :: ⟨a28, fl (xs ++ [fop .quo .f32 (FloatKind.f32.nearest (x24 : Int)) 1082130432]), c28 * 1, 90⟩ :: ⟨a37, fl (ys ++ [fop .quo .f32 (FloatKind.f32.nearest (x33 : Int)) 1073741824]), c37 * 1, 90⟩ :: ⟨some ⟨b14, 0, none⟩, fl zs1, ((1 + x9) * (1 + x9)) * 1, 90⟩ :: ⟨some ⟨q, 0, none⟩, [.slice a bs.length c, .int .i64 ((nn1 : Nat) : Int), .int .u64 ((sd2 : Nat) : Int)], 3, 87⟩ :: ⟨some ⟨b2, 0, none⟩, [.slice none 0 0, .slice none 0 0, .slice none 0 0], 3, 41⟩ :: F)) (fun ⟨j, zs1, nn1, sd2⟩ => [(6, .int .i64 (j : Int))]) (fun ⟨j, zs1, nn1, sd2⟩ => xs.length - j) (0, (zs.set (xs.length * (1 + x9) + xs.length) (fop .quo .f32 (FloatKind.f32.nearest (4 + (x47 : Int))) 1073741824)), nn + 1 + 1 + 1, s47) (.cons rfl (.cons rfl (.cons rfl (.cons rfl (.cons rfl .nil))))) (.cons rfl .nil) ?_ ?_ ?_
    · exact (fun w hw => by
        dsimp only
        rw [← fl_snoc, ← fl_snoc]
        exact hw.pick (by apply Pick.cons1; (· repeat (first | exact Rem.here | exact Rem.all | exact Rem.hereS | apply Rem.there | apply Rem.thereS)); apply Pick.cons1; (· repeat (first | exact Rem.here | exact Rem.all | exact Rem.hereS | apply Rem.there | apply Rem.thereS)); apply Pick.cons1; (· repeat (first | exact Rem.here | exact Rem.all | exact Rem.hereS | apply Rem.there | apply Rem.thereS)); apply Pick.cons1; (· repeat (first | exact Rem.here | exact Rem.all | exact Rem.hereS | apply Rem.there | apply Rem.thereS)); apply Pick.cons1; (· repeat (first | exact Rem.here | exact Rem.all | exact Rem.hereS | apply Rem.there | apply Rem.thereS)); apply Pick.cons1; (· repeat (first | exact Rem.here | exact Rem.all | exact Rem.hereS | apply Rem.there | apply Rem.thereS)); apply Pick.last; repeat (first | exact Rem.here | exact Rem.all | exact Rem.hereS | apply Rem.there | apply Rem.thereS)))
    · exact (by exact ⟨Nat.zero_le _, by rw [List.length_set]; exact hz9, ⟨by (try dsimp only); omega, by (try dsimp only); omega⟩, hs47⟩)
    rintro ⟨j, zs1, nn1, sd2⟩ ⟨hj8, hz8, hn8, hd8⟩
    show V _ _ _ (⟨some ⟨b4, 0, none⟩, [.slice a28 (xs.length + 1) c28, .slice a37 (ys.length + 1) c37, .slice (some ⟨b14, 0, none⟩) ((1 + x9) * (1 + x9)) ((1 + x9) * (1 + x9))], 3, 41⟩ :: ⟨a28, fl (xs ++ [fop .quo .f32 (FloatKind.f32.nearest (x24 : Int)) 1082130432]), c28 * 1, 90⟩ :: ⟨a37, fl (ys ++ [fop .quo .f32 (FloatKind.f32.nearest (x33 : Int)) 1073741824]), c37 * 1, 90⟩ :: ⟨some ⟨b14, 0, none⟩, fl zs1, ((1 + x9) * (1 + x9)) * 1, 90⟩ :: ⟨some ⟨q, 0, none⟩, [.slice a bs.length c, .int .i64 ((nn1 : Nat) : Int), .int .u64 ((sd2 : Nat) : Int)], 3, 87⟩ :: ⟨some ⟨b2, 0, none⟩, [.slice none 0 0, .slice none 0 0, .slice none 0 0], 3, 41⟩ :: F) ([(6, .int .i64 (j : Int))] ++ [(0, _), (2, _), (3, _), (4, _), (5, _)]) _ _
    refine V.seq ?_
    refine V.seq ?_
    refine V.region ?_
    refine VL.r (.inl rfl) rfl (by decide) (yr_move rfl rfl) ?_
    refine VL.r (.inl rfl) rfl (by decide) (yr_move rfl rfl) ?_
    refine VL.r (.inl rfl) rfl (by decide) (yr_icmp rfl (.inr (.inr (.inl rfl))) rfl rfl) ?_
    refine VL.nil ?_
    refine VE.then_wp ?_
    refine V.cond rfl (fun h2 => ?_) (fun h2 => ?_)
    · skip
      replace h2 := ic_lss h2
      have hj9 : j < 1 + x9 := by omega
      have q2 := sq_lt hi9 hj9
      have q3 := sq_lt hj9 hi9
      refine V.skip ?_
      refine VE.then_wp ?_
      refine V.seq ?_
      refine V.block ?_
      refine V.seq ?_
      refine V.region ?_
      refine VL.r (.inl rfl) rfl (by decide) (yr_move rfl rfl) ?_
      refine VL.c (.inl rfl) rfl (by decide) (yc_callf rfl known35_Dw (.cons rfl (.cons rfl .nil)) (by apply Pick.one; repeat (first | exact Rem.here | apply Rem.there | apply Rem.thereS)) (c_pick (m := 7) (n := nn1) hA hb hl (by (try dsimp only); omega) (by (try dsimp only); omega) (by decide) (by decide))) ?_
      rintro ⟨⟨x58, s58⟩, hx58, hs58⟩
      dsimp only at hx58 hs58
      refine VL.r (.inl rfl) rfl (by decide) (yr_int rfl rfl rfl (.inr (.inl ⟨rfl, wrap_in (by (try dsimp only); omega)⟩))) ?_
      refine VL.r (.inl rfl) rfl (by decide) (yr_ofInt rfl Tryd.underlying2 Tryd.underlying90 rfl) ?_
      refine VL.r (.inl rfl) rfl (by decide) (yr_float (b := 1082130432) rfl (.inr (.inr (.inr rfl))) rfl rfl) ?_
      refine VL.r (.inl rfl) rfl (by decide) (yr_assign rfl rfl) ?_
      refine VL.nil ?_
      refine VE.then_wp ?_
      refine V.seq ?_
      refine V.region ?_
      refine VL.r (.inl rfl) rfl (by decide) (yr_fieldAddr rfl Tryd.underlying41 rfl rfl sz39_Dw (by decide) rfl) ?_
      refine VL.q (.inl rfl) rfl (by decide) (yq_load rfl fb39_Dw rfl (by first | exact Sees.root (by assumption) | exact Sees.own (by repeat (first | exact List.mem_cons_self | exact List.mem_append_left _ (by assumption) | apply List.mem_cons_of_mem | apply List.mem_append_right)) | exact Sees.root (hR _ (by omega)) | exact Sees.own (RowsIn.mem (by repeat (first | exact RowsIn.here | exact RowsIn.last | apply RowsIn.there | apply RowsIn.thereS)) _ (by omega)) | exact Sees.own (WRowsIn.mem (by repeat (first | exact WRowsIn.here | exact WRowsIn.last | apply WRowsIn.there | apply WRowsIn.thereS)) _ (by omega))) rfl) ?_
      refine VL.r (.inl rfl) rfl (by decide) (yr_move rfl rfl) ?_
      refine VL.r (.inl rfl) rfl (by decide) (yr_move rfl rfl) ?_
      refine VL.r (.inl rfl) rfl (by decide) (yr_mulN xs.length (1 + x9) rfl rfl rfl (by omega) (by omega) (Nat.le_trans (by first | exact q0 | (have := Nat.mul_le_mul (show xs.length ≤ 3 by omega) (show 1 + x9 ≤ 3 by omega); exact this) | (have := Nat.mul_le_mul (show j ≤ 3 by omega) (show 1 + x9 ≤ 3 by omega); exact this) | (have := Nat.mul_le_mul (show 1 + x9 ≤ 3 by omega) (show 1 + x9 ≤ 3 by omega); exact this)) (by decide))) ?_
      refine VL.r (.inl rfl) rfl (by decide) (yr_move rfl rfl) ?_
      refine VL.r (.inl rfl) rfl (by decide) (yr_int rfl rfl rfl (.inl ⟨rfl, wrap_in (by (try dsimp only); omega)⟩)) ?_
      refine VL.r (.inl rfl) rfl (by decide) (yr_move rfl rfl) ?_
      refine VL.q (.inl rfl) rfl (by decide) (yq_idx (k := ((xs.length * (1 + x9)) + j)) rfl Tryd.underlying39 sz90_Dw rfl rfl (by first | exact Sees.root (by assumption) | exact Sees.own (by repeat (first | exact List.mem_cons_self | exact List.mem_append_left _ (by assumption) | apply List.mem_cons_of_mem | apply List.mem_append_right)) | exact Sees.root (hR _ (by omega)) | exact Sees.own (RowsIn.mem (by repeat (first | exact RowsIn.here | exact RowsIn.last | apply RowsIn.there | apply RowsIn.thereS)) _ (by omega)) | exact Sees.own (WRowsIn.mem (by repeat (first | exact WRowsIn.here | exact WRowsIn.last | apply WRowsIn.there | apply WRowsIn.thereS)) _ (by omega))) (by first | rfl | omega | (push_cast; rfl) | (push_cast; omega) | exact tmod_nat _ _) (by rw [fl_length]; first | exact hz9 | exact hz8 | (rw [List.length_set]; first | exact hz9 | exact hz8)) (by first | exact q1 | exact q2 | exact q3 | omega)) ?_
      refine VL.s (.inl rfl) rfl (yc_store rfl sz90_Dw rfl rfl (by repeat (first | exact UpdF.here | apply UpdF.there | apply UpdF.thereS)) (.inl ⟨rfl, rfl⟩) rfl (by simp only [fl_length, List.length_set]; first | (rw [hz9]; first | exact q1 | exact q2 | exact q3) | (rw [hz8]; first | exact q1 | exact q2 | exact q3) | omega) (by decide) (fl_set _ _ _)) ?_
      rintro ⟨⟩
      refine VL.nil ?_
      refine VE.then_wp ?_
      refine V.region ?_
      refine VL.r (.inl rfl) rfl (by decide) (yr_fieldAddr rfl Tryd.underlying41 rfl rfl sz39_Dw (by decide) rfl) ?_
      refine VL.q (.inl rfl) rfl (by decide) (yq_load rfl fb39_Dw rfl (by first | exact Sees.root (by assumption) | exact Sees.own (by repeat (first | exact List.mem_cons_self | exact List.mem_append_left _ (by assumption) | apply List.mem_cons_of_mem | apply List.mem_append_right)) | exact Sees.root (hR _ (by omega)) | exact Sees.own (RowsIn.mem (by repeat (first | exact RowsIn.here | exact RowsIn.last | apply RowsIn.there | apply RowsIn.thereS)) _ (by omega)) | exact Sees.own (WRowsIn.mem (by repeat (first | exact WRowsIn.here | exact WRowsIn.last | apply WRowsIn.there | apply WRowsIn.thereS)) _ (by omega))) rfl) ?_
      refine VL.r (.inl rfl) rfl (by decide) (yr_move rfl rfl) ?_
      refine VL.r (.inl rfl) rfl (by decide) (yr_move rfl rfl) ?_
      refine VL.r (.inl rfl) rfl (by decide) (yr_mulN j (1 + x9) rfl rfl rfl (by omega) (by omega) (Nat.le_trans (by first | exact q0 | (have := Nat.mul_le_mul (show xs.length ≤ 3 by omega) (show 1 + x9 ≤ 3 by omega); exact this) | (have := Nat.mul_le_mul (show j ≤ 3 by omega) (show 1 + x9 ≤ 3 by omega); exact this) | (have := Nat.mul_le_mul (show 1 + x9 ≤ 3 by omega) (show 1 + x9 ≤ 3 by omega); exact this)) (by decide))) ?_
      refine VL.r (.inl rfl) rfl (by decide) (yr_move rfl rfl) ?_
      refine VL.r (.inl rfl) rfl (by decide) (yr_int rfl rfl rfl (.inl ⟨rfl, wrap_in (by (try dsimp only); omega)⟩)) ?_
      refine VL.r (.inl rfl) rfl (by decide) (yr_move rfl rfl) ?_
      refine VL.q (.inl rfl) rfl (by decide) (yq_idx (k := ((j * (1 + x9)) + xs.length)) rfl Tryd.underlying39 sz90_Dw rfl rfl (by first | exact Sees.root (by assumption) | exact Sees.own (by repeat (first | exact List.mem_cons_self | exact List.mem_append_left _ (by assumption) | apply List.mem_cons_of_mem | apply List.mem_append_right)) | exact Sees.root (hR _ (by omega)) | exact Sees.own (RowsIn.mem (by repeat (first | exact RowsIn.here | exact RowsIn.last | apply RowsIn.there | apply RowsIn.thereS)) _ (by omega)) | exact Sees.own (WRowsIn.mem (by repeat (first | exact WRowsIn.here | exact WRowsIn.last | apply WRowsIn.there | apply WRowsIn.thereS)) _ (by omega))) (by first | rfl | omega | (push_cast; rfl) | (push_cast; omega) | exact tmod_nat _ _) (by rw [fl_length]; first | exact hz9 | exact hz8 | (rw [List.length_set]; first | exact hz9 | exact hz8)) (by first | exact q1 | exact q2 | exact q3 | omega)) ?_
      refine VL.s (.inl rfl) rfl (yc_store rfl sz90_Dw rfl rfl (by repeat (first | exact UpdF.here | apply UpdF.there | apply UpdF.thereS)) (.inl ⟨rfl, rfl⟩) rfl (by simp only [fl_length, List.length_set]; first | (rw [hz9]; first | exact q1 | exact q2 | exact q3) | (rw [hz8]; first | exact q1 | exact q2 | exact q3) | omega) (by decide) (fl_set _ _ _)) ?_
      rintro ⟨⟩
      refine VL.nil ?_
      refine VE.block_normal ?_
      refine VE.then_wp ?_
      refine V.region ?_
      refine VL.r (.inl rfl) rfl (by decide) (yr_move rfl rfl) ?_
      refine VL.r (.inl rfl) rfl (by decide) (yr_int rfl rfl rfl (.inl ⟨rfl, wrap_in (by (try dsimp only); omega)⟩)) ?_
      refine VL.r (.inl rfl) rfl (by decide) (yr_assign rfl rfl) ?_
      refine VL.nil ?_
      refine VE.round (j + 1, (zs1.set (xs.length * (1 + x9) + j) (fop .quo .f32 (FloatKind.f32.nearest ((x58 : Int) - 3)) 1082130432)).set (j * (1 + x9) + xs.length) (fop .quo .f32 (FloatKind.f32.nearest ((x58 : Int) - 3)) 1082130432), nn1 + 1, s58) ?_ ?_ ?_ ?_ ?_
      · exact (.cons rfl .nil)
      · exact (.cons rfl (.cons rfl (.cons rfl (.cons rfl (.cons rfl .nil)))))
      · exact (fun w hw => hw.pick (by apply Pick.cons1; (· repeat (first | exact Rem.here | exact Rem.all | exact Rem.hereS | apply Rem.there | apply Rem.thereS)); apply Pick.cons1; (· repeat (first | exact Rem.here | exact Rem.all | exact Rem.hereS | apply Rem.there | apply Rem.thereS)); apply Pick.cons1; (· repeat (first | exact Rem.here | exact Rem.all | exact Rem.hereS | apply Rem.there | apply Rem.thereS)); apply Pick.cons1; (· repeat (first | exact Rem.here | exact Rem.all | exact Rem.hereS | apply Rem.there | apply Rem.thereS)); apply Pick.cons1; (· repeat (first | exact Rem.here | exact Rem.all | exact Rem.hereS | apply Rem.there | apply Rem.thereS)); apply Pick.cons1; (· repeat (first | exact Rem.here | exact Rem.all | exact Rem.hereS | apply Rem.there | apply Rem.thereS)); apply Pick.last; repeat (first | exact Rem.here | exact Rem.all | exact Rem.hereS | apply Rem.there | apply Rem.thereS)))
      · exact ⟨by omega, by simp only [List.length_set]; exact hz8, ⟨by omega, by omega⟩, hs58⟩
      · (try dsimp only); omega
    · skip
      replace h2 := ic_lss' h2
      refine V.exit ?_
      refine VE.then_exit ?_
      refine VE.then_exit ?_
      refine VE.block_here ?_
      refine VE.block_normal ?_
      refine VE.then_wp ?_
      refine V.region ?_
      refine VL.r (.inl rfl) rfl (by decide) (yr_move rfl rfl) ?_
      refine VL.r (.inl rfl) rfl (by decide) (yr_int rfl rfl rfl (.inl ⟨rfl, wrap_in (by (try dsimp only); omega)⟩)) ?_
      refine VL.r (.inl rfl) rfl (by decide) (yr_assign rfl rfl) ?_
      refine VL.nil ?_
      refine VE.round (xs ++ [fop .quo .f32 (FloatKind.f32.nearest (x24 : Int)) 1082130432], a28, c28, ys ++ [fop .quo .f32 (FloatKind.f32.nearest (x33 : Int)) 1073741824], a37, c37, zs1, nn1, sd2) ?_ ?_ ?_ ?_ ?_
      · exact (.cons (congrArg (fun i => some (Value.int .i64 i)) (by rw [List.length_append]; rfl)) .nil)
      · exact (.cons rfl (.cons rfl (.cons rfl (.cons rfl .nil))))
      · exact (fun w hw => by
          dsimp only
          rw [List.length_append, List.length_append]
          exact hw.pick (by apply Pick.cons1; (· repeat (first | exact Rem.here | exact Rem.all | exact Rem.hereS | apply Rem.there | apply Rem.thereS)); apply Pick.cons1; (· repeat (first | exact Rem.here | exact Rem.all | exact Rem.hereS | apply Rem.there | apply Rem.thereS)); apply Pick.cons1; (· repeat (first | exact Rem.here | exact Rem.all | exact Rem.hereS | apply Rem.there | apply Rem.thereS)); apply Pick.cons1; (· repeat (first | exact Rem.here | exact Rem.all | exact Rem.hereS | apply Rem.there | apply Rem.thereS)); apply Pick.cons1; (· repeat (first | exact Rem.here | exact Rem.all | exact Rem.hereS | apply Rem.there | apply Rem.thereS)); apply Pick.cons1; (· repeat (first | exact Rem.here | exact Rem.all | exact Rem.hereS | apply Rem.there | apply Rem.thereS)); apply Pick.last; repeat (first | exact Rem.here | exact Rem.all | exact Rem.hereS | apply Rem.there | apply Rem.thereS)))
      · dsimp only
        simp only [List.length_append, List.length_cons, List.length_nil, Nat.zero_add]
        exact ⟨by omega, by omega, hz8, ⟨by omega, by omega⟩, hd8⟩
      · dsimp only; rw [List.length_append]; show 1 + x9 - (xs.length + 1) < 1 + x9 - xs.length; omega
  · skip
    replace h1 := ic_lss' h1
    refine V.exit ?_
    refine VE.then_exit ?_
    refine VE.then_exit ?_
    refine VE.block_here ?_
    refine VE.then_wp ?_
    refine V.seq ?_
    refine V.region ?_
    refine VL.q (.inl rfl) rfl (by decide) (yq_loadS rfl Tryd.underlying41 sz41_Dw rfl (by first | exact Sees.root (by assumption) | exact Sees.own (by repeat (first | exact List.mem_cons_self | exact List.mem_append_left _ (by assumption) | apply List.mem_cons_of_mem | apply List.mem_append_right)) | exact Sees.root (hR _ (by omega)) | exact Sees.own (RowsIn.mem (by repeat (first | exact RowsIn.here | exact RowsIn.last | apply RowsIn.there | apply RowsIn.thereS)) _ (by omega)) | exact Sees.own (WRowsIn.mem (by repeat (first | exact WRowsIn.here | exact WRowsIn.last | apply WRowsIn.there | apply WRowsIn.thereS)) _ (by omega))) rfl rfl rfl) ?_
    refine VL.s (.inl rfl) rfl (yc_store rfl sz41_Dw rfl rfl (by repeat (first | exact UpdF.here | apply UpdF.there | apply UpdF.thereS)) (.inr ⟨rfl, rfl⟩) rfl (by first | exact Nat.le_of_ble_eq_true rfl | simp) (by decide) rfl) ?_
    rintro ⟨⟩
    refine VL.nil ?_
    refine VE.then_wp ?_
    refine V.ret ?_
    refine retC rfl (rv_cellS rfl Tryd.underlying41 sz41_Dw (by first | exact Sees.root (by assumption) | exact Sees.own (by repeat (first | exact List.mem_cons_self | exact List.mem_append_left _ (by assumption) | apply List.mem_cons_of_mem | apply List.mem_append_right)) | exact Sees.root (hR _ (by omega)) | exact Sees.own (RowsIn.mem (by repeat (first | exact RowsIn.here | exact RowsIn.last | apply RowsIn.there | apply RowsIn.thereS)) _ (by omega)) | exact Sees.own (WRowsIn.mem (by repeat (first | exact WRowsIn.here | exact WRowsIn.last | apply WRowsIn.there | apply WRowsIn.thereS)) _ (by omega))) rfl rfl rfl) (by nofun) (fun w1 hw => ?_)
    exact ⟨⟨((((a1, c1), xs), ((a2, c2), ys), ((some ⟨b14, 0, none⟩, ((1 + x9) * (1 + x9))), zs)), nn, sd1), ⟨by show xs.length ≤ 3; omega, by show ys.length ≤ 3; omega, by show zs.length ≤ 9; have := Nat.mul_le_mul (show 1 + x9 ≤ 3 by omega) (show 1 + x9 ≤ 3 by omega); omega⟩, by assumption, by (try dsimp only); omega, by (try dsimp only); omega⟩, by dsimp only; rw [hz9]; rfl, hw.pick (by apply Pick.app1; (· repeat (first | exact Rem.here | exact Rem.all | exact Rem.hereS | apply Rem.there | apply Rem.thereS)); apply Pick.cons1; (· repeat (first | exact Rem.here | exact Rem.all | exact Rem.hereS | apply Rem.there | apply Rem.thereS)); apply Pick.cons1; (· repeat (first | exact Rem.here | exact Rem.all | exact Rem.hereS | apply Rem.there | apply Rem.thereS)); apply Pick.cons1; (· repeat (first | exact Rem.here | exact Rem.all | exact Rem.hereS | apply Rem.there | apply Rem.thereS)); apply Pick.cons1; (· repeat (first | exact Rem.here | exact Rem.all | exact Rem.hereS | apply Rem.there | apply Rem.thereS)); exact Pick.nil)⟩

theorem c_ddesk {w0 : World} {a : Option Addr} {c q n sd : Nat} {bs : List Int} (hA : Cl w0 a (bl bs)) (hb : Bytes bs) (hl : bs.length ≤ 2000000) (hn : n ≤ 80000) (hsd : sd < 18446744073709551616) : Mut Tryd.prog 37 [.pointer (some (adr (some ⟨q, 0, none⟩) 0))] w0 [⟨some ⟨q, 0, none⟩, [.slice a bs.length c, .int .i64 ((n : Nat) : Int), .int .u64 ((sd : Nat) : Int)], 3, 87⟩] (fun x : {x : ((Option Addr × Nat × Nat) × (Option Addr × Nat × Nat) × (Option Addr × Nat × Nat) × (Option Addr × Nat × Nat) × (Option Addr × Nat × Nat)) × Nat × Nat // (x.1.1.2.1 ≤ 2) ∧ x.2.2 < 18446744073709551616 ∧ n ≤ x.2.1 ∧ x.2.1 ≤ n + 300} => .agg #[.slice x.1.1.1.1 x.1.1.1.2.1 x.1.1.1.2.2, .slice x.1.1.2.1.1 x.1.1.2.1.2.1 x.1.1.2.1.2.2, .slice x.1.1.2.2.1.1 x.1.1.2.2.1.2.1 x.1.1.2.2.1.2.2, .slice x.1.1.2.2.2.1.1 x.1.1.2.2.2.1.2.1 x.1.1.2.2.2.1.2.2, .slice x.1.1.2.2.2.2.1 x.1.1.2.2.2.2.2.1 x.1.1.2.2.2.2.2.2]) (fun x => [⟨some ⟨q, 0, none⟩, [.slice a bs.length c, .int .i64 ((x.1.2.1 : Nat) : Int), .int .u64 ((x.1.2.2 : Nat) : Int)], 3, 87⟩]) := by
  refine Mut.enter Tryd.func37 rfl Tryd.ntmps37 (Nat.le_of_ble_eq_true rfl) ?_
  intro F
  haveI hneW : Nonempty (((Option Addr × Nat) × {vs : List V3 // vs.length ≤ 8}) × Bool × Nat) := ⟨((((none, 0), ⟨[], Nat.zero_le _⟩), false, 0))⟩
  haveI hneP : Nonempty ((Nat × Nat × Nat) × Nat) := ⟨((0, 0, 0), 0)⟩
  refine V.seq ?_
  refine V.region ?_
  refine VL.new1 (.inl rfl) rfl (by decide) (yn_alloc rfl zero43_Dw rfl) ?_
  intro b2
  refine VL.nil ?_
  refine VE.then_wp ?_
  refine V.seq ?_
  refine V.region ?_
  refine VL.new1 (.inl rfl) rfl (by decide) (yn_buildSlice rfl Tryd.underlying37 elt93_Dw rfl (by decide) .nil (by first | (simp; done) | (simp [vv]; done)) rfl rfl) ?_
  intro b6
  refine VL.new1 (.inl rfl) rfl (by decide) (yn_buildSlice rfl Tryd.underlying38 elt104_Dw rfl (by decide) .nil (by first | (simp; done) | (simp [vv]; done)) rfl rfl) ?_
  intro b7
  refine VL.r (.inl rfl) rfl (by decide) (yr_move rfl rfl) ?_
  refine VL.c (.inl rfl) rfl (by decide) (yc_callf rfl known59_Dw (.cons rfl .nil) (by apply Pick.one; repeat (first | exact Rem.here | apply Rem.there | apply Rem.thereS)) (c_dcirc hA hb hl (by (try dsimp only); omega) (by (try dsimp only); omega))) ?_
  rintro ⟨⟨⟨⟨⟨a9, c9⟩, xs9⟩, ⟨⟨d9, e9⟩, ys9⟩, ⟨f9, g9⟩, zs9⟩, n9, s9⟩, hv9, hs9, hn9, hm9⟩
  dsimp only at hv9 hs9 hn9 hm9
  refine VL.r (.inl rfl) rfl (by decide) (yr_build rfl lay43_Dw rfl (.cons rfl (.cons rfl (.cons rfl .nil))) (by first | (simp; done) | (simp [vv]; done) | (simp [cn, cn1, cn0]; done)) rfl) ?_
  refine VL.new1 (.inl rfl) rfl (by decide) (yn_alloc rfl zero43_Dw rfl) ?_
  intro b3
  refine VL.s (.inl rfl) rfl (yc_store rfl sz43_Dw rfl rfl (by repeat (first | exact UpdF.here | apply UpdF.there | apply UpdF.thereS)) (.inr ⟨rfl, rfl⟩) rfl (by first | exact Nat.le_of_ble_eq_true rfl | simp) (by decide) rfl) ?_
  rintro ⟨⟩
  refine VL.nil ?_
  refine VE.then_wp ?_
  refine V.seq ?_
  refine V.seq ?_
  refine V.region ?_
  refine VL.r (.inl rfl) rfl (by decide) (yr_move rfl rfl) ?_
  refine VL.c (.inl rfl) rfl (by decide) (yc_callf rfl known35_Dw (.cons rfl (.cons rfl .nil)) (by apply Pick.one; repeat (first | exact Rem.here | apply Rem.there | apply Rem.thereS)) (c_pickG (m := 3) hA hb hl (by (try dsimp only); omega) (by (try dsimp only); omega) (by (try dsimp only); omega) (by (try dsimp only); omega))) ?_
  rintro ⟨⟨x12, n12, s12⟩, hx12, hs12, hn12, hm12⟩
  dsimp only at hx12 hs12 hn12 hm12
  refine VL.r (.inl rfl) rfl (by decide) (yr_assign rfl rfl) ?_
  refine VL.nil ?_
  refine VE.then_wp ?_
  refine V.block ?_
  refine V.loopc (G := (List Value) × Nat × (Option Addr) × Nat × Nat × Nat) [(0, _), (2, _), (3, _)] (fun ⟨us, m, aw, cw, nn, sd1⟩ => m ≤ x12 ∧ us.length = m * 3 ∧ us.all scal = true ∧ (n ≤ nn ∧ nn ≤ n + 62 + 60 * m) ∧ sd1 < 18446744073709551616) (fun ⟨us, m, aw, cw, nn, sd1⟩ => (⟨some ⟨b3, 0, none⟩, [.slice aw m cw, .slice (some ⟨b7, 0, none⟩) 0 0, .slice a9 xs9.length c9, .slice d9 ys9.length e9, .slice f9 zs9.length g9], 5, 43⟩ :: ⟨aw, us, cw * 3, 93⟩ :: ⟨some ⟨q, 0, none⟩, [.slice a bs.length c, .int .i64 ((nn : Nat) : Int), .int .u64 ((sd1 : Nat) : Int)], 3, 87⟩ :: ⟨some ⟨b7, 0, none⟩, pl [], 0 * 4, 104⟩ :: ⟨some ⟨b2, 0, none⟩, [.slice none 0 0, .slice none 0 0, .slice none 0 0, .slice none 0 0, .slice none 0 0], 5, 43⟩ :: F)) (fun ⟨us, m, aw, cw, nn, sd1⟩ => [(4, .int .i64 ((x12 - m : Nat) : Int))]) (fun ⟨us, m, aw, cw, nn, sd1⟩ => x12 - m) ([], 0, some ⟨b6, 0, none⟩, 0, n12, s12) (.cons rfl (.cons rfl (.cons rfl .nil))) (.cons rfl .nil) ?_ ?_ ?_
  · exact (fun w hw => hw.pick (by apply Pick.cons1; (· repeat (first | exact Rem.here | exact Rem.all | exact Rem.hereS | apply Rem.there | apply Rem.thereS)); apply Pick.cons1; (· repeat (first | exact Rem.here | exact Rem.all | exact Rem.hereS | apply Rem.there | apply Rem.thereS)); apply Pick.cons1; (· repeat (first | exact Rem.here | exact Rem.all | exact Rem.hereS | apply Rem.there | apply Rem.thereS)); apply Pick.cons1; (· repeat (first | exact Rem.here | exact Rem.all | exact Rem.hereS | apply Rem.there | apply Rem.thereS)); apply Pick.cons1; (· repeat (first | exact Rem.here | exact Rem.all | exact Rem.hereS | apply Rem.there | apply Rem.thereS)); apply Pick.last; repeat (first | exact Rem.here | exact Rem.all | exact Rem.hereS | apply Rem.there | apply Rem.thereS)))
  · exact (by exact ⟨Nat.zero_le _, rfl, rfl, ⟨by (try dsimp only); omega, by (try dsimp only); omega⟩, hs12⟩)
  rintro ⟨us, m, aw, cw, nn, sd1⟩ ⟨hm9, hu9, hsc9, hn99, hd99⟩
  show V _ _ _ (⟨some ⟨b3, 0, none⟩, [.slice aw m cw, .slice (some ⟨b7, 0, none⟩) 0 0, .slice a9 xs9.length c9, .slice d9 ys9.length e9, .slice f9 zs9.length g9], 5, 43⟩ :: ⟨aw, us, cw * 3, 93⟩ :: ⟨some ⟨q, 0, none⟩, [.slice a bs.length c, .int .i64 ((nn : Nat) : Int), .int .u64 ((sd1 : Nat) : Int)], 3, 87⟩ :: ⟨some ⟨b7, 0, none⟩, pl [], 0 * 4, 104⟩ :: ⟨some ⟨b2, 0, none⟩, [.slice none 0 0, .slice none 0 0, .slice none 0 0, .slice none 0 0, .slice none 0 0], 5, 43⟩ :: F) ([(4, .int .i64 ((x12 - m : Nat) : Int))] ++ [(0, _), (2, _), (3, _)]) _ _
  refine V.seq ?_
  refine V.seq ?_
  refine V.region ?_
  refine VL.r (.inl rfl) rfl (by decide) (yr_move rfl rfl) ?_
  refine VL.r (.inl rfl) rfl (by decide) (yr_icmp rfl (.inr (.inr (.inr (.inr (.inl rfl))))) rfl rfl) ?_
  refine VL.nil ?_
  refine VE.then_wp ?_
  refine V.cond rfl (fun h1 => ?_) (fun h1 => ?_)
  · skip
    replace h1 := ic_gtr h1
    refine V.skip ?_
    refine VE.then_wp ?_
    refine V.seq ?_
    refine V.block ?_
    refine Dr.V.drawR [(0, 5), (1, 5), (2, 5), (3, 3), (4, 1), (5, 3), (6, 5), (7, 4)] [] [⟨some ⟨q, 0, none⟩, [.slice a bs.length c, .int .i64 ((nn : Nat) : Int), .int .u64 ((sd1 : Nat) : Int)], 3, 87⟩, ⟨aw, us, cw * 3, 93⟩] _ mixed_Dw (by kernel_rfl) (fun w hw => Hp.pickS hw (by apply Pick.e2; all_goals (repeat (first | exact Rem.here | exact Rem.all | exact Rem.hereS | apply Rem.there | apply Rem.thereS)))) ?_
    refine Dr.SW.r rfl (.inl rfl) rfl (by decide) (yr_fieldAddr rfl Tryd.underlying43 rfl rfl sz37_Dw (by decide) rfl) ?_
    refine Dr.SW.p rfl (.inl rfl) rfl (by decide) (yq_load rfl fb37_Dw rfl (by first | exact Sees.root (by assumption) | exact Sees.own (by (try simp only [List.append_assoc, List.cons_append, List.nil_append]); repeat (first | exact List.mem_cons_self | exact List.mem_append_left _ (by assumption) | apply List.mem_cons_of_mem | apply List.mem_append_right)) | exact Sees.root (hR _ (by omega)) | exact Sees.own (RowsIn.mem (by (try simp only [List.append_assoc, List.cons_append, List.nil_append]); repeat (first | exact RowsIn.here | exact RowsIn.last | apply RowsIn.there | apply RowsIn.thereS)) _ (by omega)) | exact Sees.own (WRowsIn.mem (by (try simp only [List.append_assoc, List.cons_append, List.nil_append]); repeat (first | exact WRowsIn.here | exact WRowsIn.last | apply WRowsIn.there | apply WRowsIn.thereS)) _ (by omega))) rfl) ?_
    refine Dr.SW.r rfl (.inl rfl) rfl (by decide) (yr_move rfl rfl) ?_
    refine Dr.SW.c rfl (.inl rfl) rfl (by decide) (yc_callfR rfl known51_Dw (.cons rfl .nil) (by apply Pick.one; repeat (first | exact Rem.here | exact Rem.all | exact Rem.hereS | apply Rem.there | apply Rem.thereS)) (c_dwire (n := nn) hA hb hl (by (try dsimp only); omega) (by (try dsimp only); omega))) ?_
    rintro ⟨⟨⟨⟨⟨a20, c20⟩, ⟨vs20, hz20⟩⟩, cl20, cu20⟩, n20, s20⟩, hv20, hs20, hn20, hm20⟩
    dsimp only at hv20 hs20 hn20 hm20
    refine Dr.SW.new1 rfl (.inl rfl) rfl (by decide) (yn_buildSlice rfl Tryd.underlying37 elt93_Dw rfl (by decide) (.cons rfl .nil) (by first | (simp; done) | (simp [vv]; done)) rfl rfl) ?_
    intro b21
    refine Dr.SW.c rfl (.inl rfl) rfl (by decide) (yc_appendz 3 rfl rfl Tryd.underlying37 elt93_Dw rfl rfl (Dr.UpdF.app (by repeat (first | exact UpdF.here | apply UpdF.there | apply UpdF.thereS))) (by first | exact Sees.root (by assumption) | exact Sees.own (by (try simp only [List.append_assoc, List.cons_append, List.nil_append]); repeat (first | exact List.mem_cons_self | exact List.mem_append_left _ (by assumption) | apply List.mem_cons_of_mem | apply List.mem_append_right)) | exact Sees.root (hR _ (by omega)) | exact Sees.own (RowsIn.mem (by (try simp only [List.append_assoc, List.cons_append, List.nil_append]); repeat (first | exact RowsIn.here | exact RowsIn.last | apply RowsIn.there | apply RowsIn.thereS)) _ (by omega)) | exact Sees.own (WRowsIn.mem (by (try simp only [List.append_assoc, List.cons_append, List.nil_append]); repeat (first | exact WRowsIn.here | exact WRowsIn.last | apply WRowsIn.there | apply WRowsIn.thereS)) _ (by omega))) rfl (by first | (rw [pl_length]; done) | exact hu9) rfl (by first | exact pl_scal _ | exact hsc9) rfl (by omega) (by omega)) ?_
    rintro ⟨a22, c22⟩
    refine Dr.SW.r rfl (.inl rfl) rfl (by decide) (yr_fieldAddr rfl Tryd.underlying43 rfl rfl sz37_Dw (by decide) rfl) ?_
    refine Dr.SW.t rfl (.inl rfl) rfl (yc_store rfl sz37_Dw rfl rfl (by repeat (first | exact UpdF.here | apply UpdF.there | apply UpdF.thereS)) (.inl ⟨rfl, rfl⟩) rfl (by first | exact Nat.le_of_ble_eq_true rfl | simp) (by decide) rfl) ?_
    rintro ⟨⟩
    refine Dr.SW.done ?_
    refine Dr.eqO (by simp only [List.append_nil, List.append_assoc, List.cons_append, List.nil_append] <;> rfl) ?_
    refine VE.block_normal ?_
    refine VE.then_wp ?_
    refine V.region ?_
    refine VL.r (.inl rfl) rfl (by decide) (yr_move rfl rfl) ?_
    refine VL.r (.inl rfl) rfl (by decide) (yr_int rfl rfl rfl (.inr (.inl ⟨rfl, wrap_in (by (try dsimp only); omega)⟩))) ?_
    refine VL.r (.inl rfl) rfl (by decide) (yr_assign rfl rfl) ?_
    refine VL.nil ?_
    refine VE.round (us ++ [.slice a20 vs20.length c20, .bool cl20, .float .f32 cu20], m + 1, a22, c22, n20, s20) ?_ ?_ ?_ ?_ ?_
    · exact (.cons (congrArg (fun i => some (Value.int .i64 i)) (by show _ = ((x12 - (m + 1) : Nat) : Int); omega)) .nil)
    · exact (.cons rfl (.cons rfl (.cons rfl .nil)))
    · exact (fun w hw => hw.pick (by apply Pick.cons1; (· repeat (first | exact Rem.here | exact Rem.all | exact Rem.hereS | apply Rem.there | apply Rem.thereS)); apply Pick.cons1; (· repeat (first | exact Rem.here | exact Rem.all | exact Rem.hereS | apply Rem.there | apply Rem.thereS)); apply Pick.cons1; (· repeat (first | exact Rem.here | exact Rem.all | exact Rem.hereS | apply Rem.there | apply Rem.thereS)); apply Pick.cons1; (· repeat (first | exact Rem.here | exact Rem.all | exact Rem.hereS | apply Rem.there | apply Rem.thereS)); apply Pick.cons1; (· repeat (first | exact Rem.here | exact Rem.all | exact Rem.hereS | apply Rem.there | apply Rem.thereS)); apply Pick.last; repeat (first | exact Rem.here | exact Rem.all | exact Rem.hereS | apply Rem.there | apply Rem.thereS)))
    · dsimp only
      exact ⟨by omega, by rw [List.length_append, hu9]; show m * 3 + 3 = (m + 1) * 3; omega, by rw [List.all_append, hsc9]; rfl, ⟨by omega, by omega⟩, hs20⟩
    · (try dsimp only); omega
  · skip
    replace h1 := ic_gtr' h1
    refine V.exit ?_
    refine VE.then_exit ?_
    refine VE.then_exit ?_
    refine VE.block_here ?_
    refine VE.then_wp ?_
    refine V.seq ?_
    refine V.seq ?_
    refine V.region ?_
    refine VL.r (.inl rfl) rfl (by decide) (yr_move rfl rfl) ?_
    refine VL.c (.inl rfl) rfl (by decide) (yc_callf rfl known35_Dw (.cons rfl (.cons rfl .nil)) (by apply Pick.one; repeat (first | exact Rem.here | apply Rem.there | apply Rem.thereS)) (c_pickG (m := 3) hA hb hl (by (try dsimp only); omega) (by (try dsimp only); omega) (by (try dsimp only); omega) (by (try dsimp only); omega))) ?_
    rintro ⟨⟨x25, n25, s25⟩, hx25, hs25, hn25, hm25⟩
    dsimp only at hx25 hs25 hn25 hm25
    refine VL.r (.inl rfl) rfl (by decide) (yr_assign rfl rfl) ?_
    refine VL.nil ?_
    refine VE.then_wp ?_
    refine V.block ?_
    refine V.loopc (G := (List Pl) × (Option Addr) × Nat × Nat × Nat) [(0, _), (2, _), (3, _)] (fun ⟨ps, ap, cp, nn, sd1⟩ => ps.length ≤ x25 ∧ (n ≤ nn ∧ nn ≤ n + 190 + 40 * ps.length) ∧ sd1 < 18446744073709551616) (fun ⟨ps, ap, cp, nn, sd1⟩ => (⟨some ⟨b3, 0, none⟩, [.slice aw m cw, .slice ap ps.length cp, .slice a9 xs9.length c9, .slice d9 ys9.length e9, .slice f9 zs9.length g9], 5, 43⟩ :: ⟨ap, pl ps, cp * 4, 104⟩ :: ⟨some ⟨q, 0, none⟩, [.slice a bs.length c, .int .i64 ((nn : Nat) : Int), .int .u64 ((sd1 : Nat) : Int)], 3, 87⟩ :: ⟨some ⟨b2, 0, none⟩, [.slice none 0 0, .slice none 0 0, .slice none 0 0, .slice none 0 0, .slice none 0 0], 5, 43⟩ :: F)) (fun ⟨ps, ap, cp, nn, sd1⟩ => [(5, .int .i64 ((x25 - ps.length : Nat) : Int))]) (fun ⟨ps, ap, cp, nn, sd1⟩ => x25 - ps.length) ([], some ⟨b7, 0, none⟩, 0, n25, s25) (.cons rfl (.cons rfl (.cons rfl .nil))) (.cons rfl .nil) ?_ ?_ ?_
    · exact (fun w hw => hw.pick (by apply Pick.cons1; (· repeat (first | exact Rem.here | exact Rem.all | exact Rem.hereS | apply Rem.there | apply Rem.thereS)); apply Pick.cons1; (· repeat (first | exact Rem.here | exact Rem.all | exact Rem.hereS | apply Rem.there | apply Rem.thereS)); apply Pick.cons1; (· repeat (first | exact Rem.here | exact Rem.all | exact Rem.hereS | apply Rem.there | apply Rem.thereS)); apply Pick.cons1; (· repeat (first | exact Rem.here | exact Rem.all | exact Rem.hereS | apply Rem.there | apply Rem.thereS)); apply Pick.last; repeat (first | exact Rem.here | exact Rem.all | exact Rem.hereS | apply Rem.there | apply Rem.thereS)))
    · exact (by exact ⟨Nat.zero_le _, ⟨by (try dsimp only); omega, by (try dsimp only); simp only [List.length_nil]; omega⟩, hs25⟩)
    rintro ⟨ps, ap, cp, nn, sd1⟩ ⟨hp9, hn98, hd98⟩
    show V _ _ _ (⟨some ⟨b3, 0, none⟩, [.slice aw m cw, .slice ap ps.length cp, .slice a9 xs9.length c9, .slice d9 ys9.length e9, .slice f9 zs9.length g9], 5, 43⟩ :: ⟨ap, pl ps, cp * 4, 104⟩ :: ⟨some ⟨q, 0, none⟩, [.slice a bs.length c, .int .i64 ((nn : Nat) : Int), .int .u64 ((sd1 : Nat) : Int)], 3, 87⟩ :: ⟨some ⟨b2, 0, none⟩, [.slice none 0 0, .slice none 0 0, .slice none 0 0, .slice none 0 0, .slice none 0 0], 5, 43⟩ :: F) ([(5, .int .i64 ((x25 - ps.length : Nat) : Int))] ++ [(0, _), (2, _), (3, _)]) _ _
    refine V.seq ?_
    refine V.seq ?_
    refine V.region ?_
    refine VL.r (.inl rfl) rfl (by decide) (yr_move rfl rfl) ?_
    refine VL.r (.inl rfl) rfl (by decide) (yr_icmp rfl (.inr (.inr (.inr (.inr (.inl rfl))))) rfl rfl) ?_
    refine VL.nil ?_
    refine VE.then_wp ?_
    refine V.cond rfl (fun h2 => ?_) (fun h2 => ?_)
    · skip
      replace h2 := ic_gtr h2
      refine V.skip ?_
      refine VE.then_wp ?_
      refine V.seq ?_
      refine V.block ?_
      refine Dr.V.drawR [(0, 5), (1, 5), (2, 5), (3, 3), (4, 1), (5, 3), (6, 5), (7, 4)] [] [⟨some ⟨q, 0, none⟩, [.slice a bs.length c, .int .i64 ((nn : Nat) : Int), .int .u64 ((sd1 : Nat) : Int)], 3, 87⟩, ⟨ap, pl ps, cp * 4, 104⟩] _ mixed_Dw (by kernel_rfl) (fun w hw => Hp.pickS hw (by apply Pick.e2; all_goals (repeat (first | exact Rem.here | exact Rem.all | exact Rem.hereS | apply Rem.there | apply Rem.thereS)))) ?_
      refine Dr.SW.r rfl (.inl rfl) rfl (by decide) (yr_fieldAddr rfl Tryd.underlying43 rfl rfl sz38_Dw (by decide) rfl) ?_
      refine Dr.SW.p rfl (.inl rfl) rfl (by decide) (yq_load rfl fb38_Dw rfl (by first | exact Sees.root (by assumption) | exact Sees.own (by (try simp only [List.append_assoc, List.cons_append, List.nil_append]); repeat (first | exact List.mem_cons_self | exact List.mem_append_left _ (by assumption) | apply List.mem_cons_of_mem | apply List.mem_append_right)) | exact Sees.root (hR _ (by omega)) | exact Sees.own (RowsIn.mem (by (try simp only [List.append_assoc, List.cons_append, List.nil_append]); repeat (first | exact RowsIn.here | exact RowsIn.last | apply RowsIn.there | apply RowsIn.thereS)) _ (by omega)) | exact Sees.own (WRowsIn.mem (by (try simp only [List.append_assoc, List.cons_append, List.nil_append]); repeat (first | exact WRowsIn.here | exact WRowsIn.last | apply WRowsIn.there | apply WRowsIn.thereS)) _ (by omega))) rfl) ?_
      refine Dr.SW.r rfl (.inl rfl) rfl (by decide) (yr_move rfl rfl) ?_
      refine Dr.SW.c rfl (.inl rfl) rfl (by decide) (yc_callfR rfl known57_Dw (.cons rfl .nil) (by apply Pick.one; repeat (first | exact Rem.here | exact Rem.all | exact Rem.hereS | apply Rem.there | apply Rem.thereS)) (c_dpole (n := nn) hA hb hl (by (try dsimp only); omega) (by (try dsimp only); omega))) ?_
      rintro ⟨⟨⟨⟨f33, g33, h33⟩, k33⟩, n33, s33⟩, hv33, hs33, hn33, hm33⟩
      dsimp only at hv33 hs33 hn33 hm33
      refine Dr.SW.new1 rfl (.inl rfl) rfl (by decide) (yn_buildSlice rfl Tryd.underlying38 elt104_Dw rfl (by decide) (.cons rfl .nil) (by first | (simp; done) | (simp [vv]; done)) rfl rfl) ?_
      intro b34
      refine Dr.SW.c rfl (.inl rfl) rfl (by decide) (yc_appendz 4 rfl rfl Tryd.underlying38 elt104_Dw rfl rfl (Dr.UpdF.app (by repeat (first | exact UpdF.here | apply UpdF.there | apply UpdF.thereS))) (by first | exact Sees.root (by assumption) | exact Sees.own (by (try simp only [List.append_assoc, List.cons_append, List.nil_append]); repeat (first | exact List.mem_cons_self | exact List.mem_append_left _ (by assumption) | apply List.mem_cons_of_mem | apply List.mem_append_right)) | exact Sees.root (hR _ (by omega)) | exact Sees.own (RowsIn.mem (by (try simp only [List.append_assoc, List.cons_append, List.nil_append]); repeat (first | exact RowsIn.here | exact RowsIn.last | apply RowsIn.there | apply RowsIn.thereS)) _ (by omega)) | exact Sees.own (WRowsIn.mem (by (try simp only [List.append_assoc, List.cons_append, List.nil_append]); repeat (first | exact WRowsIn.here | exact WRowsIn.last | apply WRowsIn.there | apply WRowsIn.thereS)) _ (by omega))) rfl (by first | (rw [pl_length]; done) | exact hu9) rfl (by first | exact pl_scal _ | exact hsc9) rfl (by omega) (by omega)) ?_
      rintro ⟨a35, c35⟩
      refine Dr.SW.r rfl (.inl rfl) rfl (by decide) (yr_fieldAddr rfl Tryd.underlying43 rfl rfl sz38_Dw (by decide) rfl) ?_
      refine Dr.SW.t rfl (.inl rfl) rfl (yc_store rfl sz38_Dw rfl rfl (by repeat (first | exact UpdF.here | apply UpdF.there | apply UpdF.thereS)) (.inl ⟨rfl, rfl⟩) rfl (by first | exact Nat.le_of_ble_eq_true rfl | simp) (by decide) rfl) ?_
      rintro ⟨⟩
      refine Dr.SW.done ?_
      refine Dr.eqO (by simp only [List.append_nil, List.append_assoc, List.cons_append, List.nil_append] <;> rfl) ?_
      refine VE.block_normal ?_
      refine VE.then_wp ?_
      refine V.region ?_
      refine VL.r (.inl rfl) rfl (by decide) (yr_move rfl rfl) ?_
      refine VL.r (.inl rfl) rfl (by decide) (yr_int rfl rfl rfl (.inr (.inl ⟨rfl, wrap_in (by (try dsimp only); omega)⟩))) ?_
      refine VL.r (.inl rfl) rfl (by decide) (yr_assign rfl rfl) ?_
      refine VL.nil ?_
      refine VE.round (ps ++ [((f33, g33, h33), k33)], a35, c35, n33, s33) ?_ ?_ ?_ ?_ ?_
      · exact (.cons (congrArg (fun i => some (Value.int .i64 i)) (by rw [List.length_append]; show _ = ((x25 - (ps.length + 1) : Nat) : Int); omega)) .nil)
      · exact (.cons rfl (.cons rfl (.cons rfl .nil)))
      · exact (fun w hw => by dsimp only; rw [← pl_snoc, List.length_append]; exact hw.pick (by apply Pick.cons1; (· repeat (first | exact Rem.here | exact Rem.all | exact Rem.hereS | apply Rem.there | apply Rem.thereS)); apply Pick.cons1; (· repeat (first | exact Rem.here | exact Rem.all | exact Rem.hereS | apply Rem.there | apply Rem.thereS)); apply Pick.cons1; (· repeat (first | exact Rem.here | exact Rem.all | exact Rem.hereS | apply Rem.there | apply Rem.thereS)); apply Pick.cons1; (· repeat (first | exact Rem.here | exact Rem.all | exact Rem.hereS | apply Rem.there | apply Rem.thereS)); apply Pick.last; repeat (first | exact Rem.here | exact Rem.all | exact Rem.hereS | apply Rem.there | apply Rem.thereS)))
      · dsimp only
        rw [List.length_append]
        exact ⟨by show ps.length + 1 ≤ x25; omega, ⟨by omega, by show n33 ≤ n + 190 + 40 * (ps.length + 1); omega⟩, hs33⟩
      · dsimp only; rw [List.length_append]; show x25 - (ps.length + 1) < x25 - ps.length; omega
    · skip
      replace h2 := ic_gtr' h2
      refine V.exit ?_
      refine VE.then_exit ?_
      refine VE.then_exit ?_
      refine VE.block_here ?_
      refine VE.then_wp ?_
      refine V.seq ?_
      refine V.region ?_
      refine VL.q (.inl rfl) rfl (by decide) (yq_loadS rfl Tryd.underlying43 sz43_Dw rfl (by first | exact Sees.root (by assumption) | exact Sees.own (by repeat (first | exact List.mem_cons_self | exact List.mem_append_left _ (by assumption) | apply List.mem_cons_of_mem | apply List.mem_append_right)) | exact Sees.root (hR _ (by omega)) | exact Sees.own (RowsIn.mem (by repeat (first | exact RowsIn.here | exact RowsIn.last | apply RowsIn.there | apply RowsIn.thereS)) _ (by omega)) | exact Sees.own (WRowsIn.mem (by repeat (first | exact WRowsIn.here | exact WRowsIn.last | apply WRowsIn.there | apply WRowsIn.thereS)) _ (by omega))) rfl rfl rfl) ?_
      refine VL.s (.inl rfl) rfl (yc_store rfl sz43_Dw rfl rfl (by repeat (first | exact UpdF.here | apply UpdF.there | apply UpdF.thereS)) (.inr ⟨rfl, rfl⟩) rfl (by first | exact Nat.le_of_ble_eq_true rfl | simp) (by decide) rfl) ?_
      rintro ⟨⟩
      refine VL.nil ?_
      refine VE.then_wp ?_
      refine V.ret ?_
      refine retC rfl (rv_cellS rfl Tryd.underlying43 sz43_Dw (by first | exact Sees.root (by assumption) | exact Sees.own (by repeat (first | exact List.mem_cons_self | exact List.mem_append_left _ (by assumption) | apply List.mem_cons_of_mem | apply List.mem_append_right)) | exact Sees.root (hR _ (by omega)) | exact Sees.own (RowsIn.mem (by repeat (first | exact RowsIn.here | exact RowsIn.last | apply RowsIn.there | apply RowsIn.thereS)) _ (by omega)) | exact Sees.own (WRowsIn.mem (by repeat (first | exact WRowsIn.here | exact WRowsIn.last | apply WRowsIn.there | apply WRowsIn.thereS)) _ (by omega))) rfl rfl rfl) (by nofun) (fun w1 hw => ?_)
      exact ⟨⟨(((aw, m, cw), (ap, ps.length, cp), (a9, xs9.length, c9), (d9, ys9.length, e9), (f9, zs9.length, g9)), nn, sd1), by show m ≤ 2; omega, by assumption, by (try dsimp only); omega, by (try dsimp only); omega⟩, rfl, hw.pick (by apply Pick.app1; (· repeat (first | exact Rem.here | exact Rem.all | exact Rem.hereS | apply Rem.there | apply Rem.thereS)); apply Pick.cons1; (· repeat (first | exact Rem.here | exact Rem.all | exact Rem.hereS | apply Rem.there | apply Rem.thereS)); exact Pick.nil)⟩

end Go.Proofs.YtmecikeaogjmpaaDoor


namespace Go.Proofs.YtmecikeaogjmpaaDoor
open Go.RowKit
set_option linter.unusedVariables false
set_option linter.unusedSimpArgs false
set_option maxRecDepth 20000

theorem sz37_Dz : (Tryd.prog.info? 37).map (·.size) = some 1 := by kernel_rfl
theorem fb37_Dz : flatB Tryd.prog 37 = true := by kernel_rfl
theorem known35_Dz : Known Tryd.prog 35 := Known.mk' Tryd.func35 (by kernel_rfl)
theorem known41_Dz : Known Tryd.prog 41 := Known.mk' Tryd.func41 (by kernel_rfl)
theorem known49_Dz : Known Tryd.prog 49 := Known.mk' Tryd.func49 (by kernel_rfl)
theorem elt9_Dz : Elt Tryd.prog 9 [Value.string ⟨#[]⟩] 16 := Elt.mk' (by kernel_rfl) (by decide)
theorem known50_Dz : Known Tryd.prog 50 := Known.mk' Tryd.func50 (by kernel_rfl)
theorem known51_Dz : Known Tryd.prog 51 := Known.mk' Tryd.func51 (by kernel_rfl)
theorem zero93_Dz : (Tryd.prog.info? 93).bind (·.zero) = some (Value.agg #[Value.slice none 0 0, Value.bool false, Value.float .f32 0]) := by kernel_rfl
theorem sz93_Dz : (Tryd.prog.info? 93).map (·.size) = some 3 := by kernel_rfl
theorem known52_Dz : Known Tryd.prog 52 := Known.mk' Tryd.func52 (by kernel_rfl)
theorem known53_Dz : Known Tryd.prog 53 := Known.mk' Tryd.func53 (by kernel_rfl)
theorem known54_Dz : Known Tryd.prog 54 := Known.mk' Tryd.func54 (by kernel_rfl)
theorem known56_Dz : Known Tryd.prog 56 := Known.mk' Tryd.func56 (by kernel_rfl)
theorem known55_Dz : Known Tryd.prog 55 := Known.mk' Tryd.func55 (by kernel_rfl)
theorem elt104_Dz : Elt Tryd.prog 104 [Value.float .f32 0, Value.float .f32 0, Value.float .f32 0, Value.float .f32 0] 16 := Elt.mk' (by kernel_rfl) (by decide)
theorem known57_Dz : Known Tryd.prog 57 := Known.mk' Tryd.func57 (by kernel_rfl)
theorem known58_Dz : Known Tryd.prog 58 := Known.mk' Tryd.func58 (by kernel_rfl)
theorem known59_Dz : Known Tryd.prog 59 := Known.mk' Tryd.func59 (by kernel_rfl)
theorem zero41_Dz : (Tryd.prog.info? 41).bind (·.zero) = some (Value.agg #[Value.slice none 0 0, Value.slice none 0 0, Value.slice none 0 0]) := by kernel_rfl
theorem sz41_Dz : (Tryd.prog.info? 41).map (·.size) = some 3 := by kernel_rfl
theorem known60_Dz : Known Tryd.prog 60 := Known.mk' Tryd.func60 (by kernel_rfl)
theorem known61_Dz : Known Tryd.prog 61 := Known.mk' Tryd.func61 (by kernel_rfl)
theorem zero112_Dz : (Tryd.prog.info? 112).bind (·.zero) = some (Value.agg #[Value.slice none 0 0, Value.slice none 0 0, Value.slice none 0 0]) := by kernel_rfl
theorem sz112_Dz : (Tryd.prog.info? 112).map (·.size) = some 3 := by kernel_rfl
theorem known62_Dz : Known Tryd.prog 62 := Known.mk' Tryd.func62 (by kernel_rfl)
theorem known63_Dz : Known Tryd.prog 63 := Known.mk' Tryd.func63 (by kernel_rfl)
theorem sz90_Dz : (Tryd.prog.info? 90).map (·.size) = some 1 := by kernel_rfl
theorem known64_Dz : Known Tryd.prog 64 := Known.mk' Tryd.func64 (by kernel_rfl)
theorem known34_Dz : Known Tryd.prog 34 := Known.mk' Tryd.func34 (by kernel_rfl)
theorem known36_Dz : Known Tryd.prog 36 := Known.mk' Tryd.func36 (by kernel_rfl)
theorem zero43_Dz : (Tryd.prog.info? 43).bind (·.zero) = some (Value.agg #[Value.slice none 0 0, Value.slice none 0 0, Value.slice none 0 0, Value.slice none 0 0, Value.slice none 0 0]) := by kernel_rfl
theorem known37_Dz : Known Tryd.prog 37 := Known.mk' Tryd.func37 (by kernel_rfl)
theorem sz43_Dz : (Tryd.prog.info? 43).map (·.size) = some 5 := by kernel_rfl
attribute [local irreducible] fop fcmp fconv fneg fabs List.getD qw hqw w2w g2w uw sb stb dec

theorem c_dline {w0 : World} {a : Option Addr} {c q n sd : Nat} {bs : List Int} {q2 nw cw : Nat} {aw : Option Addr} {ds : List Value} (hA : Cl w0 a (bl bs)) (hb : Bytes bs) (hl : bs.length ≤ 2000000) (hn : n ≤ 80000) (hsd : sd < 18446744073709551616) (hnw : nw ≤ 2) : Mut Tryd.prog 36 [.pointer (some (adr (some ⟨q, 0, none⟩) 0)), .pointer (some (adr (some ⟨q2, 0, none⟩) 0))] w0 [⟨some ⟨q, 0, none⟩, [.slice a bs.length c, .int .i64 ((n : Nat) : Int), .int .u64 ((sd : Nat) : Int)], 3, 87⟩, ⟨some ⟨q2, 0, none⟩, .slice aw nw cw :: ds, 5, 43⟩] (fun x : {x : ({s : ByteArray // tx s 1200}) × Nat × Nat // (True) ∧ x.2.2 < 18446744073709551616 ∧ n ≤ x.2.1 ∧ x.2.1 ≤ n + 300} => .string x.1.1.1) (fun x => [⟨some ⟨q, 0, none⟩, [.slice a bs.length c, .int .i64 ((x.1.2.1 : Nat) : Int), .int .u64 ((x.1.2.2 : Nat) : Int)], 3, 87⟩, ⟨some ⟨q2, 0, none⟩, .slice aw nw cw :: ds, 5, 43⟩]) := by
  refine Mut.enter Tryd.func36 rfl Tryd.ntmps36 (Nat.le_of_ble_eq_true rfl) ?_
  intro F
  refine V.seq ?_
  refine V.region ?_
  refine VL.r (.inl rfl) rfl (by decide) (yr_assign rfl rfl) ?_
  refine VL.nil ?_
  refine VE.then_wp ?_
  refine V.seq ?_
  refine V.region ?_
  refine VL.r (.inl rfl) rfl (by decide) (yr_move rfl rfl) ?_
  refine VL.r (.inl rfl) rfl (by decide) (yr_move rfl rfl) ?_
  refine VL.r (.inl rfl) rfl (by decide) (yr_nilCheck rfl rfl) ?_
  refine VL.r (.inl rfl) rfl (by decide) (yr_fieldAddr rfl Tryd.underlying43 rfl rfl sz37_Dz (by decide) rfl) ?_
  refine VL.q (.inl rfl) rfl (by decide) (yq_load rfl fb37_Dz rfl (by first | exact Sees.root (by assumption) | exact Sees.own (by repeat (first | exact List.mem_cons_self | exact List.mem_append_left _ (by assumption) | apply List.mem_cons_of_mem | apply List.mem_append_right)) | exact Sees.root (hR _ (by omega)) | exact Sees.own (RowsIn.mem (by repeat (first | exact RowsIn.here | exact RowsIn.last | apply RowsIn.there | apply RowsIn.thereS)) _ (by omega)) | exact Sees.own (WRowsIn.mem (by repeat (first | exact WRowsIn.here | exact WRowsIn.last | apply WRowsIn.there | apply WRowsIn.thereS)) _ (by omega))) rfl) ?_
  refine VL.r (.inl rfl) rfl (by decide) (yr_len rfl Tryd.underlying37 rfl) ?_
  refine VL.r (.inl rfl) rfl (by decide) (yr_addN (nw + 1) rfl rfl rfl (by push_cast; rfl) (by omega)) ?_
  refine VL.c (.inl rfl) rfl (by decide) (yc_callf rfl known35_Dz (.cons rfl (.cons rfl .nil)) (by apply Pick.one; repeat (first | exact Rem.here | apply Rem.there | apply Rem.thereS)) (c_pickG (m := nw + 1) hA hb hl (by (try dsimp only); omega) (by (try dsimp only); omega) (by (try dsimp only); omega) (by (try dsimp only); omega))) ?_
  rintro ⟨⟨x21, n21, s21⟩, hx21, hs21, hn21, hm21⟩
  dsimp only at hx21 hs21 hn21 hm21
  refine VL.q (.inl rfl) rfl (by decide) (yq_callf rfl known41_Dz (.cons rfl .nil) (fun w hw => (c_dec (by (try dsimp only); omega)))) ?_
  refine VL.r (.inl rfl) rfl (by decide) (yr_assign rfl rfl) ?_
  refine VL.nil ?_
  refine VE.then_wp ?_
  refine V.seq ?_
  refine V.region ?_
  refine VL.r (.inl rfl) rfl (by decide) (yr_move rfl rfl) ?_
  refine VL.c (.inl rfl) rfl (by decide) (yc_callf rfl known35_Dz (.cons rfl (.cons rfl .nil)) (by apply Pick.one; repeat (first | exact Rem.here | apply Rem.there | apply Rem.thereS)) (c_pickG (m := 8) hA hb hl (by (try dsimp only); omega) (by (try dsimp only); omega) (by (try dsimp only); omega) (by (try dsimp only); omega))) ?_
  rintro ⟨⟨x24, n24, s24⟩, hx24, hs24, hn24, hm24⟩
  dsimp only at hx24 hs24 hn24 hm24
  refine VL.r (.inl rfl) rfl (by decide) (yr_addN (1 + x24) rfl rfl rfl (by push_cast; rfl) (by omega)) ?_
  refine VL.r (.inl rfl) rfl (by decide) (yr_ofInt rfl Tryd.underlying2 Tryd.underlying90 rfl) ?_
  refine VL.r (.inl rfl) rfl (by decide) (yr_float (b := 1082130432) rfl (.inr (.inr (.inr rfl))) rfl rfl) ?_
  refine VL.new (.inl rfl) rfl (by decide) (yn_callf rfl known49_Dz (.cons rfl .nil) (fun w hw => c_hex)) ?_
  rintro ⟨s28, hs28⟩
  dsimp only
  refine VL.r (.inl rfl) rfl (by decide) (yr_assign rfl rfl) ?_
  refine VL.nil ?_
  refine VE.then_wp ?_
  refine V.seq ?_
  refine V.seq ?_
  refine V.region ?_
  refine VL.r (.inl rfl) rfl (by decide) (yr_move rfl rfl) ?_
  refine VL.c (.inl rfl) rfl (by decide) (yc_callf rfl known35_Dz (.cons rfl (.cons rfl .nil)) (by apply Pick.one; repeat (first | exact Rem.here | apply Rem.there | apply Rem.thereS)) (c_pickG (m := 10) hA hb hl (by (try dsimp only); omega) (by (try dsimp only); omega) (by (try dsimp only); omega) (by (try dsimp only); omega))) ?_
  rintro ⟨⟨x30, n30, s30⟩, hx30, hs30, hn30, hm30⟩
  dsimp only at hx30 hs30 hn30 hm30
  refine VL.nil ?_
  refine VE.then_wp ?_
  refine V.block ?_
  refine V.seq ?_
  refine V.region ?_
  refine VL.r (.inl rfl) rfl (by decide) (yr_icmp rfl (.inl rfl) rfl rfl) ?_
  refine VL.r (.inl rfl) rfl (by decide) (yr_assign rfl rfl) ?_
  refine VL.nil ?_
  refine VE.then_wp ?_
  refine V.cond rfl (fun h1 => ?_) (fun h1 => ?_)
  · skip
    replace h1 := ic_eql h1
    refine V.seq ?_
    refine V.region ?_
    refine VL.r (.inl rfl) rfl (by decide) (yr_move rfl rfl) ?_
    refine VL.new1 (.inl rfl) rfl (by decide) (yn_lit rfl Tryd.underlying25 elt9_Dz rfl (by decide) (.cons rfl (.cons rfl (.cons rfl (.cons rfl (.cons rfl (.cons rfl (.cons rfl (.cons rfl (.cons rfl (.cons rfl (.cons rfl (.cons rfl (.cons rfl (.cons rfl (.cons rfl (.cons rfl (.cons rfl .nil))))))))))))))))) (by first | (simp; done) | (simp [cn, cn1, cn0]; done)) rfl rfl rfl) ?_
    intro b34
    refine VL.c (.inl rfl) rfl (by decide) (yc_callf rfl known50_Dz (.cons rfl (.cons rfl .nil)) (by apply Pick.e2; all_goals (repeat (first | exact Rem.here | exact Rem.all | exact Rem.hereS | apply Rem.there | apply Rem.thereS))) (c_textD (b := some ⟨b34, 0, none⟩) (d := 17) (ss := [⟨#[]⟩, ⟨#[119, 104, 97, 116]⟩, ⟨#[119, 105, 114, 101, 32, 110, 111, 110, 101]⟩, ⟨#[119, 105, 114, 101, 32, 48, 48, 48, 48, 48, 48, 48, 48, 44, 48, 48, 48, 48, 48, 48, 48, 48, 44, 48, 48, 48, 48, 48, 48, 48, 48, 59, 111, 112, 101, 110, 59, 48, 48, 48, 48, 48, 48, 48, 48]⟩, ⟨#[114, 105, 110, 103, 32, 50, 32, 51, 102, 56, 48, 48, 48, 48, 48, 32, 48, 48, 48, 48, 48, 48, 48, 48, 32, 51, 102, 56, 48, 48, 48, 48, 48]⟩, ⟨#[100, 114, 111, 112, 32, 45, 49]⟩, ⟨#[102, 101, 101, 100, 32, 48, 32, 110, 111, 110, 101]⟩, ⟨#[102, 105, 101, 108, 100, 32, 110, 111, 110, 101]⟩, ⟨#[110, 101, 101, 100, 108, 101, 32, 55, 102, 99, 48, 48, 48, 48, 48, 44, 48, 48, 48, 48, 48, 48, 48, 48, 44, 48, 48, 48, 48, 48, 48, 48, 48]⟩, ⟨#[109, 97, 103, 110, 101, 116, 32, 120]⟩, ⟨#[99, 105, 114, 99, 117, 105, 116, 32, 51, 102, 56, 48, 48, 48, 48, 48, 59, 110, 111, 110, 101, 59, 51, 102, 56, 48, 48, 48, 48, 48]⟩, ⟨#[116, 117, 110, 101, 32, 57, 32, 51, 102, 56, 48, 48, 48, 48, 48]⟩, ⟨#[112, 111, 114, 116, 32, 48, 32, 48, 48, 48, 48, 48, 48, 48, 48]⟩, ⟨#[115, 99, 97, 110, 32, 48, 32, 51, 102, 56, 48, 48, 48, 48, 48, 32, 51, 102, 56, 48, 48, 48, 48, 48, 32, 48]⟩, ⟨#[105, 114, 111, 110, 32, 57, 32, 51, 102, 56, 48, 48, 48, 48, 48, 32, 110, 111, 110, 101]⟩, ⟨#[102, 105, 116, 32, 110, 111, 110, 101, 32, 48, 48, 48, 48, 48, 48, 48, 48]⟩, ⟨#[119, 105, 114, 101, 115, 32, 110, 111, 119]⟩]) (cap := 17 * 1) (m := 60) hA hb hl (by (try dsimp only); omega) (by (try dsimp only); omega) (txs_of (by decide +kernel)) (by decide))) ?_
    rintro ⟨⟨⟨t35, ht35⟩, n35, s35⟩, hv35, hs35, hn35, hm35⟩
    dsimp only at hv35 hs35 hn35 hm35
    refine VL.r (.inl rfl) rfl (by decide) (yr_assign rfl rfl) ?_
    refine VL.nil ?_
    refine VE.then_wp ?_
    refine V.ret ?_
    refine VE.block_ret ?_
    refine VE.then_ret ?_
    refine ret1 rfl rfl (fun w1 hw => ?_)
    exact ⟨⟨(⟨_, tx_mono ht35 (by first | omega | (simp only [List.length_cons, List.length_nil]; omega) | (have h1 := hd126.m2; have h2 := hd126.wl; have h3 := hd126.gl; omega) | (simp only [List.length_take]; omega))⟩, n35, s35), trivial, by assumption, by (try dsimp only); omega, by (try dsimp only); omega⟩, rfl, hw.pick (by apply Pick.app1; (· repeat (first | exact Rem.here | exact Rem.all | exact Rem.hereS | apply Rem.there | apply Rem.thereS)); apply Pick.cons1; (· repeat (first | exact Rem.here | exact Rem.all | exact Rem.hereS | apply Rem.there | apply Rem.thereS)); apply Pick.cons1; (· repeat (first | exact Rem.here | exact Rem.all | exact Rem.hereS | apply Rem.there | apply Rem.thereS)); exact Pick.nil)⟩
  · skip
    replace h1 := ic_eql' h1
    refine V.seq ?_
    refine V.region ?_
    refine VL.r (.inl rfl) rfl (by decide) (yr_icmp rfl (.inl rfl) rfl rfl) ?_
    refine VL.r (.inl rfl) rfl (by decide) (yr_assign rfl rfl) ?_
    refine VL.nil ?_
    refine VE.then_wp ?_
    refine V.cond rfl (fun h2 => ?_) (fun h2 => ?_)
    · skip
      replace h2 := ic_eql h2
      refine V.seq ?_
      refine V.region ?_
      refine VL.r (.inl rfl) rfl (by decide) (yr_move rfl rfl) ?_
      refine VL.c (.inl rfl) rfl (by decide) (yc_callf rfl known51_Dz (.cons rfl .nil) (by apply Pick.one; repeat (first | exact Rem.here | apply Rem.there | apply Rem.thereS)) (c_dwire hA hb hl (by (try dsimp only); omega) (by (try dsimp only); omega))) ?_
      rintro ⟨⟨⟨⟨⟨a39, c39⟩, ⟨vs39, hz39⟩⟩, cl39, cu39⟩, n39, s39⟩, hv39, hs39, hn39, hm39⟩
      dsimp only at hv39 hs39 hn39 hm39
      refine VL.new1 (.inl rfl) rfl (by decide) (yn_alloc rfl zero93_Dz rfl) ?_
      intro b7
      refine VL.s (.inl rfl) rfl (yc_store rfl sz93_Dz rfl rfl (by repeat (first | exact UpdF.here | apply UpdF.there | apply UpdF.thereS)) (.inr ⟨rfl, rfl⟩) rfl (by first | exact Nat.le_of_ble_eq_true rfl | simp) (by decide) rfl) ?_
      rintro ⟨⟩
      refine VL.nil ?_
      refine VE.then_wp ?_
      refine V.seq ?_
      refine V.region ?_
      refine VL.new (.inl rfl) rfl (by decide) (yn_callf rfl known52_Dz (.cons rfl .nil) (fun w hw => (c_wireT (q := some ⟨b7, 0, none⟩) (vs := vs39) (cl := cl39) (cur := cu39) (by first | exact Sees.root (by assumption) w hw | exact Sees.own (by repeat (first | exact List.mem_cons_self | exact List.mem_append_left _ (by assumption) | apply List.mem_cons_of_mem | apply List.mem_append_right)) w hw) (by first | exact Sees.root (by assumption) w hw | exact Sees.own (by repeat (first | exact List.mem_cons_self | exact List.mem_append_left _ (by assumption) | apply List.mem_cons_of_mem | apply List.mem_append_right)) w hw) (by omega)))) ?_
      rintro ⟨s40, hs40⟩
      dsimp only
      refine VL.r (.inl rfl) rfl (by decide) (yr_catT rfl rfl rfl (show tx ⟨#[119, 105, 114, 101, 32]⟩ 5 from ⟨by decide, by decide⟩) hs40 (by first | omega | (simp only [List.length_cons, List.length_nil]; omega) | (have h1 := hd126.m2; have h2 := hd126.wl; have h3 := hd126.gl; omega) | (simp only [List.length_take]; omega))) ?_
      refine VL.r (.inl rfl) rfl (by decide) (yr_assign rfl rfl) ?_
      refine VL.nil ?_
      refine VE.then_wp ?_
      refine V.ret ?_
      refine VE.block_ret ?_
      refine VE.then_ret ?_
      refine ret1 rfl rfl (fun w1 hw => ?_)
      exact ⟨⟨(⟨_, tx_mono (tx_app (show tx ⟨#[119, 105, 114, 101, 32]⟩ 5 from ⟨by decide, by decide⟩) hs40) (by first | omega | (simp only [List.length_cons, List.length_nil]; omega) | (have h1 := hd126.m2; have h2 := hd126.wl; have h3 := hd126.gl; omega) | (simp only [List.length_take]; omega))⟩, n39, s39), trivial, by assumption, by (try dsimp only); omega, by (try dsimp only); omega⟩, rfl, hw.pick (by apply Pick.app1; (· repeat (first | exact Rem.here | exact Rem.all | exact Rem.hereS | apply Rem.there | apply Rem.thereS)); apply Pick.cons1; (· repeat (first | exact Rem.here | exact Rem.all | exact Rem.hereS | apply Rem.there | apply Rem.thereS)); apply Pick.cons1; (· repeat (first | exact Rem.here | exact Rem.all | exact Rem.hereS | apply Rem.there | apply Rem.thereS)); exact Pick.nil)⟩
    · skip
      replace h2 := ic_eql' h2
      refine V.seq ?_
      refine V.region ?_
      refine VL.r (.inl rfl) rfl (by decide) (yr_icmp rfl (.inl rfl) rfl rfl) ?_
      refine VL.r (.inl rfl) rfl (by decide) (yr_assign rfl rfl) ?_
      refine VL.nil ?_
      refine VE.then_wp ?_
      refine V.cond rfl (fun h3 => ?_) (fun h3 => ?_)
      · skip
        replace h3 := ic_eql h3
        refine V.seq ?_
        refine V.region ?_
        refine VL.r (.inl rfl) rfl (by decide) (yr_move rfl rfl) ?_
        refine VL.c (.inl rfl) rfl (by decide) (yc_callf rfl known35_Dz (.cons rfl (.cons rfl .nil)) (by apply Pick.one; repeat (first | exact Rem.here | apply Rem.there | apply Rem.thereS)) (c_pickG (m := 5) hA hb hl (by (try dsimp only); omega) (by (try dsimp only); omega) (by (try dsimp only); omega) (by (try dsimp only); omega))) ?_
        rintro ⟨⟨x45, n45, s45⟩, hx45, hs45, hn45, hm45⟩
        dsimp only at hx45 hs45 hn45 hm45
        refine VL.r (.inl rfl) rfl (by decide) (yr_addN (3 + x45) rfl rfl rfl (by push_cast; rfl) (by omega)) ?_
        refine VL.q (.inl rfl) rfl (by decide) (yq_callf rfl known41_Dz (.cons rfl .nil) (fun w hw => (c_dec (by (try dsimp only); omega)))) ?_
        refine VL.r (.inl rfl) rfl (by decide) (yr_assign rfl rfl) ?_
        refine VL.nil ?_
        refine VE.then_wp ?_
        refine V.seq ?_
        refine V.region ?_
        refine VL.r (.inl rfl) rfl (by decide) (yr_move rfl rfl) ?_
        refine VL.r (.inl rfl) rfl (by decide) (yr_catT rfl rfl rfl (show tx ⟨#[114, 105, 110, 103, 32]⟩ 5 from ⟨by decide, by decide⟩) (tx_dec (by (try dsimp only); omega)) (by first | omega | (simp only [List.length_cons, List.length_nil]; omega) | (have h1 := hd126.m2; have h2 := hd126.wl; have h3 := hd126.gl; omega) | (simp only [List.length_take]; omega))) ?_
        refine VL.r (.inl rfl) rfl (by decide) (yr_catT rfl rfl rfl (tx_app (show tx ⟨#[114, 105, 110, 103, 32]⟩ 5 from ⟨by decide, by decide⟩) (tx_dec (by (try dsimp only); omega))) (show tx ⟨#[32]⟩ 1 from ⟨by decide, by decide⟩) (by first | omega | (simp only [List.length_cons, List.length_nil]; omega) | (have h1 := hd126.m2; have h2 := hd126.wl; have h3 := hd126.gl; omega) | (simp only [List.length_take]; omega))) ?_
        refine VL.r (.inl rfl) rfl (by decide) (yr_move rfl rfl) ?_
        refine VL.r (.inl rfl) rfl (by decide) (yr_catT rfl rfl rfl (tx_app (tx_app (show tx ⟨#[114, 105, 110, 103, 32]⟩ 5 from ⟨by decide, by decide⟩) (tx_dec (by (try dsimp only); omega))) (show tx ⟨#[32]⟩ 1 from ⟨by decide, by decide⟩)) hs28 (by first | omega | (simp only [List.length_cons, List.length_nil]; omega) | (have h1 := hd126.m2; have h2 := hd126.wl; have h3 := hd126.gl; omega) | (simp only [List.length_take]; omega))) ?_
        refine VL.r (.inl rfl) rfl (by decide) (yr_catT rfl rfl rfl (tx_app (tx_app (tx_app (show tx ⟨#[114, 105, 110, 103, 32]⟩ 5 from ⟨by decide, by decide⟩) (tx_dec (by (try dsimp only); omega))) (show tx ⟨#[32]⟩ 1 from ⟨by decide, by decide⟩)) hs28) (show tx ⟨#[32]⟩ 1 from ⟨by decide, by decide⟩) (by first | omega | (simp only [List.length_cons, List.length_nil]; omega) | (have h1 := hd126.m2; have h2 := hd126.wl; have h3 := hd126.gl; omega) | (simp only [List.length_take]; omega))) ?_
        refine VL.r (.inl rfl) rfl (by decide) (yr_move rfl rfl) ?_
        refine VL.c (.inl rfl) rfl (by decide) (yc_callf rfl known53_Dz (.cons rfl .nil) (by apply Pick.one; repeat (first | exact Rem.here | apply Rem.there | apply Rem.thereS)) (c_small hA hb hl (by (try dsimp only); omega) (by (try dsimp only); omega))) ?_
        rintro ⟨⟨v55, n55, s55⟩, hv55, hs55, hn55, hm55⟩
        dsimp only at hv55 hs55 hn55 hm55
        refine VL.new (.inl rfl) rfl (by decide) (yn_callf rfl known49_Dz (.cons rfl .nil) (fun w hw => c_hex)) ?_
        rintro ⟨s56, hs56⟩
        dsimp only
        refine VL.r (.inl rfl) rfl (by decide) (yr_catT rfl rfl rfl (tx_app (tx_app (tx_app (tx_app (show tx ⟨#[114, 105, 110, 103, 32]⟩ 5 from ⟨by decide, by decide⟩) (tx_dec (by (try dsimp only); omega))) (show tx ⟨#[32]⟩ 1 from ⟨by decide, by decide⟩)) hs28) (show tx ⟨#[32]⟩ 1 from ⟨by decide, by decide⟩)) hs56 (by first | omega | (simp only [List.length_cons, List.length_nil]; omega) | (have h1 := hd126.m2; have h2 := hd126.wl; have h3 := hd126.gl; omega) | (simp only [List.length_take]; omega))) ?_
        refine VL.r (.inl rfl) rfl (by decide) (yr_catT rfl rfl rfl (tx_app (tx_app (tx_app (tx_app (tx_app (show tx ⟨#[114, 105, 110, 103, 32]⟩ 5 from ⟨by decide, by decide⟩) (tx_dec (by (try dsimp only); omega))) (show tx ⟨#[32]⟩ 1 from ⟨by decide, by decide⟩)) hs28) (show tx ⟨#[32]⟩ 1 from ⟨by decide, by decide⟩)) hs56) (show tx ⟨#[32]⟩ 1 from ⟨by decide, by decide⟩) (by first | omega | (simp only [List.length_cons, List.length_nil]; omega) | (have h1 := hd126.m2; have h2 := hd126.wl; have h3 := hd126.gl; omega) | (simp only [List.length_take]; omega))) ?_
        refine VL.r (.inl rfl) rfl (by decide) (yr_move rfl rfl) ?_
        refine VL.c (.inl rfl) rfl (by decide) (yc_callf rfl known53_Dz (.cons rfl .nil) (by apply Pick.one; repeat (first | exact Rem.here | apply Rem.there | apply Rem.thereS)) (c_small hA hb hl (by (try dsimp only); omega) (by (try dsimp only); omega))) ?_
        rintro ⟨⟨v60, n60, s60⟩, hv60, hs60, hn60, hm60⟩
        dsimp only at hv60 hs60 hn60 hm60
        refine VL.new (.inl rfl) rfl (by decide) (yn_callf rfl known49_Dz (.cons rfl .nil) (fun w hw => c_hex)) ?_
        rintro ⟨s61, hs61⟩
        dsimp only
        refine VL.r (.inl rfl) rfl (by decide) (yr_catT rfl rfl rfl (tx_app (tx_app (tx_app (tx_app (tx_app (tx_app (show tx ⟨#[114, 105, 110, 103, 32]⟩ 5 from ⟨by decide, by decide⟩) (tx_dec (by (try dsimp only); omega))) (show tx ⟨#[32]⟩ 1 from ⟨by decide, by decide⟩)) hs28) (show tx ⟨#[32]⟩ 1 from ⟨by decide, by decide⟩)) hs56) (show tx ⟨#[32]⟩ 1 from ⟨by decide, by decide⟩)) hs61 (by first | omega | (simp only [List.length_cons, List.length_nil]; omega) | (have h1 := hd126.m2; have h2 := hd126.wl; have h3 := hd126.gl; omega) | (simp only [List.length_take]; omega))) ?_
        refine VL.r (.inl rfl) rfl (by decide) (yr_assign rfl rfl) ?_
        refine VL.nil ?_
        refine VE.then_wp ?_
        refine V.ret ?_
        refine VE.block_ret ?_
        refine VE.then_ret ?_
        refine ret1 rfl rfl (fun w1 hw => ?_)
        exact ⟨⟨(⟨_, tx_mono (tx_app (tx_app (tx_app (tx_app (tx_app (tx_app (tx_app (show tx ⟨#[114, 105, 110, 103, 32]⟩ 5 from ⟨by decide, by decide⟩) (tx_dec (by (try dsimp only); omega))) (show tx ⟨#[32]⟩ 1 from ⟨by decide, by decide⟩)) hs28) (show tx ⟨#[32]⟩ 1 from ⟨by decide, by decide⟩)) hs56) (show tx ⟨#[32]⟩ 1 from ⟨by decide, by decide⟩)) hs61) (by first | omega | (simp only [List.length_cons, List.length_nil]; omega) | (have h1 := hd126.m2; have h2 := hd126.wl; have h3 := hd126.gl; omega) | (simp only [List.length_take]; omega))⟩, n60, s60), trivial, by assumption, by (try dsimp only); omega, by (try dsimp only); omega⟩, rfl, hw.pick (by apply Pick.app1; (· repeat (first | exact Rem.here | exact Rem.all | exact Rem.hereS | apply Rem.there | apply Rem.thereS)); apply Pick.cons1; (· repeat (first | exact Rem.here | exact Rem.all | exact Rem.hereS | apply Rem.there | apply Rem.thereS)); apply Pick.cons1; (· repeat (first | exact Rem.here | exact Rem.all | exact Rem.hereS | apply Rem.there | apply Rem.thereS)); exact Pick.nil)⟩
      · skip
        replace h3 := ic_eql' h3
        refine V.seq ?_
        refine V.region ?_
        refine VL.r (.inl rfl) rfl (by decide) (yr_icmp rfl (.inl rfl) rfl rfl) ?_
        refine VL.r (.inl rfl) rfl (by decide) (yr_assign rfl rfl) ?_
        refine VL.nil ?_
        refine VE.then_wp ?_
        refine V.cond rfl (fun h4 => ?_) (fun h4 => ?_)
        · skip
          replace h4 := ic_eql h4
          refine V.seq ?_
          refine V.region ?_
          refine VL.r (.inl rfl) rfl (by decide) (yr_move rfl rfl) ?_
          refine VL.new1 (.inl rfl) rfl (by decide) (yn_lit rfl Tryd.underlying25 elt9_Dz rfl (by decide) (.cons rfl (.cons rfl (.cons rfl (.cons rfl .nil)))) (by first | (simp; done) | (simp [cn, cn1, cn0]; done)) rfl rfl rfl) ?_
          intro b66
          refine VL.c (.inl rfl) rfl (by decide) (yc_callf rfl known50_Dz (.cons rfl (.cons rfl .nil)) (by apply Pick.e2; all_goals (repeat (first | exact Rem.here | exact Rem.all | exact Rem.hereS | apply Rem.there | apply Rem.thereS))) (c_textD (b := some ⟨b66, 0, none⟩) (d := 4) (ss := [⟨#[100, 114, 111, 112, 32]⟩, ⟨#[115, 104, 111, 119, 32]⟩, ⟨#[108, 111, 110, 103, 32]⟩, ⟨#[109, 111, 109, 101, 110, 116, 32]⟩]) (cap := 4 * 1) (m := 60) hA hb hl (by (try dsimp only); omega) (by (try dsimp only); omega) (txs_of (by decide +kernel)) (by decide))) ?_
          rintro ⟨⟨⟨t67, ht67⟩, n67, s67⟩, hv67, hs67, hn67, hm67⟩
          dsimp only at hv67 hs67 hn67 hm67
          refine VL.r (.inl rfl) rfl (by decide) (yr_move rfl rfl) ?_
          refine VL.r (.inl rfl) rfl (by decide) (yr_catT rfl rfl rfl ht67 (tx_dec (by (try dsimp only); omega)) (by first | omega | (simp only [List.length_cons, List.length_nil]; omega) | (have h1 := hd126.m2; have h2 := hd126.wl; have h3 := hd126.gl; omega) | (simp only [List.length_take]; omega))) ?_
          refine VL.r (.inl rfl) rfl (by decide) (yr_assign rfl rfl) ?_
          refine VL.nil ?_
          refine VE.then_wp ?_
          refine V.ret ?_
          refine VE.block_ret ?_
          refine VE.then_ret ?_
          refine ret1 rfl rfl (fun w1 hw => ?_)
          exact ⟨⟨(⟨_, tx_mono (tx_app ht67 (tx_dec (by (try dsimp only); omega))) (by first | omega | (simp only [List.length_cons, List.length_nil]; omega) | (have h1 := hd126.m2; have h2 := hd126.wl; have h3 := hd126.gl; omega) | (simp only [List.length_take]; omega))⟩, n67, s67), trivial, by assumption, by (try dsimp only); omega, by (try dsimp only); omega⟩, rfl, hw.pick (by apply Pick.app1; (· repeat (first | exact Rem.here | exact Rem.all | exact Rem.hereS | apply Rem.there | apply Rem.thereS)); apply Pick.cons1; (· repeat (first | exact Rem.here | exact Rem.all | exact Rem.hereS | apply Rem.there | apply Rem.thereS)); apply Pick.cons1; (· repeat (first | exact Rem.here | exact Rem.all | exact Rem.hereS | apply Rem.there | apply Rem.thereS)); exact Pick.nil)⟩
        · skip
          replace h4 := ic_eql' h4
          refine V.seq ?_
          refine V.region ?_
          refine VL.r (.inl rfl) rfl (by decide) (yr_icmp rfl (.inl rfl) rfl rfl) ?_
          refine VL.r (.inl rfl) rfl (by decide) (yr_assign rfl rfl) ?_
          refine VL.nil ?_
          refine VE.then_wp ?_
          refine V.cond rfl (fun h5 => ?_) (fun h5 => ?_)
          · skip
            replace h5 := ic_eql h5
            refine V.seq ?_
            refine V.seq ?_
            refine V.region ?_
            refine VL.r (.inl rfl) rfl (by decide) (yr_move rfl rfl) ?_
            refine VL.c (.inl rfl) rfl (by decide) (yc_callf rfl known54_Dz (.cons rfl (.cons rfl .nil)) (by apply Pick.one; repeat (first | exact Rem.here | apply Rem.there | apply Rem.thereS)) (c_one (m := 2) hA hb hl (by (try dsimp only); omega) (by (try dsimp only); omega) (by decide) (by decide))) ?_
            rintro ⟨⟨v73, n73, s73⟩, hv73, hs73, hn73, hm73⟩
            dsimp only at hv73 hs73 hn73 hm73
            refine VL.nil ?_
            refine VE.then_wp ?_
            refine V.cond rfl (fun h6 => ?_) (fun h6 => ?_)
            · skip
              refine V.seq ?_
              refine V.region ?_
              refine VL.r (.inl rfl) rfl (by decide) (yr_move rfl rfl) ?_
              refine VL.r (.inl rfl) rfl (by decide) (yr_catT rfl rfl rfl (show tx ⟨#[102, 101, 101, 100, 32]⟩ 5 from ⟨by decide, by decide⟩) (tx_dec (by (try dsimp only); omega)) (by first | omega | (simp only [List.length_cons, List.length_nil]; omega) | (have h1 := hd126.m2; have h2 := hd126.wl; have h3 := hd126.gl; omega) | (simp only [List.length_take]; omega))) ?_
              refine VL.r (.inl rfl) rfl (by decide) (yr_catT rfl rfl rfl (tx_app (show tx ⟨#[102, 101, 101, 100, 32]⟩ 5 from ⟨by decide, by decide⟩) (tx_dec (by (try dsimp only); omega))) (show tx ⟨#[32]⟩ 1 from ⟨by decide, by decide⟩) (by first | omega | (simp only [List.length_cons, List.length_nil]; omega) | (have h1 := hd126.m2; have h2 := hd126.wl; have h3 := hd126.gl; omega) | (simp only [List.length_take]; omega))) ?_
              refine VL.r (.inl rfl) rfl (by decide) (yr_move rfl rfl) ?_
              refine VL.r (.inl rfl) rfl (by decide) (yr_catT rfl rfl rfl (tx_app (tx_app (show tx ⟨#[102, 101, 101, 100, 32]⟩ 5 from ⟨by decide, by decide⟩) (tx_dec (by (try dsimp only); omega))) (show tx ⟨#[32]⟩ 1 from ⟨by decide, by decide⟩)) hs28 (by first | omega | (simp only [List.length_cons, List.length_nil]; omega) | (have h1 := hd126.m2; have h2 := hd126.wl; have h3 := hd126.gl; omega) | (simp only [List.length_take]; omega))) ?_
              refine VL.r (.inl rfl) rfl (by decide) (yr_assign rfl rfl) ?_
              refine VL.nil ?_
              refine VE.then_wp ?_
              refine V.ret ?_
              refine VE.then_ret ?_
              refine VE.block_ret ?_
              refine VE.then_ret ?_
              refine ret1 rfl rfl (fun w1 hw => ?_)
              exact ⟨⟨(⟨_, tx_mono (tx_app (tx_app (tx_app (show tx ⟨#[102, 101, 101, 100, 32]⟩ 5 from ⟨by decide, by decide⟩) (tx_dec (by (try dsimp only); omega))) (show tx ⟨#[32]⟩ 1 from ⟨by decide, by decide⟩)) hs28) (by first | omega | (simp only [List.length_cons, List.length_nil]; omega) | (have h1 := hd126.m2; have h2 := hd126.wl; have h3 := hd126.gl; omega) | (simp only [List.length_take]; omega))⟩, n73, s73), trivial, by assumption, by (try dsimp only); omega, by (try dsimp only); omega⟩, rfl, hw.pick (by apply Pick.app1; (· repeat (first | exact Rem.here | exact Rem.all | exact Rem.hereS | apply Rem.there | apply Rem.thereS)); apply Pick.cons1; (· repeat (first | exact Rem.here | exact Rem.all | exact Rem.hereS | apply Rem.there | apply Rem.thereS)); apply Pick.cons1; (· repeat (first | exact Rem.here | exact Rem.all | exact Rem.hereS | apply Rem.there | apply Rem.thereS)); exact Pick.nil)⟩
            · skip
              refine V.skip ?_
              refine VE.then_wp ?_
              refine V.seq ?_
              refine V.region ?_
              refine VL.r (.inl rfl) rfl (by decide) (yr_move rfl rfl) ?_
              refine VL.new1 (.inl rfl) rfl (by decide) (yn_lit rfl Tryd.underlying25 elt9_Dz rfl (by decide) (.cons rfl (.cons rfl .nil)) (by first | (simp; done) | (simp [cn, cn1, cn0]; done)) rfl rfl rfl) ?_
              intro b80
              refine VL.c (.inl rfl) rfl (by decide) (yc_callf rfl known50_Dz (.cons rfl (.cons rfl .nil)) (by apply Pick.e2; all_goals (repeat (first | exact Rem.here | exact Rem.all | exact Rem.hereS | apply Rem.there | apply Rem.thereS))) (c_textD (b := some ⟨b80, 0, none⟩) (d := 2) (ss := [⟨#[116, 117, 110, 101, 32]⟩, ⟨#[112, 111, 114, 116, 32]⟩]) (cap := 2 * 1) (m := 60) hA hb hl (by (try dsimp only); omega) (by (try dsimp only); omega) (txs_of (by decide +kernel)) (by decide))) ?_
              rintro ⟨⟨⟨t81, ht81⟩, n81, s81⟩, hv81, hs81, hn81, hm81⟩
              dsimp only at hv81 hs81 hn81 hm81
              refine VL.r (.inl rfl) rfl (by decide) (yr_move rfl rfl) ?_
              refine VL.c (.inl rfl) rfl (by decide) (yc_callf rfl known35_Dz (.cons rfl (.cons rfl .nil)) (by apply Pick.one; repeat (first | exact Rem.here | apply Rem.there | apply Rem.thereS)) (c_pickG (m := 3) hA hb hl (by (try dsimp only); omega) (by (try dsimp only); omega) (by (try dsimp only); omega) (by (try dsimp only); omega))) ?_
              rintro ⟨⟨x83, n83, s83⟩, hx83, hs83, hn83, hm83⟩
              dsimp only at hx83 hs83 hn83 hm83
              refine VL.q (.inl rfl) rfl (by decide) (yq_callf rfl known41_Dz (.cons rfl .nil) (fun w hw => (c_dec (by (try dsimp only); omega)))) ?_
              refine VL.r (.inl rfl) rfl (by decide) (yr_catT rfl rfl rfl ht81 (tx_dec (by (try dsimp only); omega)) (by first | omega | (simp only [List.length_cons, List.length_nil]; omega) | (have h1 := hd126.m2; have h2 := hd126.wl; have h3 := hd126.gl; omega) | (simp only [List.length_take]; omega))) ?_
              refine VL.r (.inl rfl) rfl (by decide) (yr_catT rfl rfl rfl (tx_app ht81 (tx_dec (by (try dsimp only); omega))) (show tx ⟨#[32]⟩ 1 from ⟨by decide, by decide⟩) (by first | omega | (simp only [List.length_cons, List.length_nil]; omega) | (have h1 := hd126.m2; have h2 := hd126.wl; have h3 := hd126.gl; omega) | (simp only [List.length_take]; omega))) ?_
              refine VL.r (.inl rfl) rfl (by decide) (yr_move rfl rfl) ?_
              refine VL.r (.inl rfl) rfl (by decide) (yr_catT rfl rfl rfl (tx_app (tx_app ht81 (tx_dec (by (try dsimp only); omega))) (show tx ⟨#[32]⟩ 1 from ⟨by decide, by decide⟩)) hs28 (by first | omega | (simp only [List.length_cons, List.length_nil]; omega) | (have h1 := hd126.m2; have h2 := hd126.wl; have h3 := hd126.gl; omega) | (simp only [List.length_take]; omega))) ?_
              refine VL.r (.inl rfl) rfl (by decide) (yr_assign rfl rfl) ?_
              refine VL.nil ?_
              refine VE.then_wp ?_
              refine V.ret ?_
              refine VE.block_ret ?_
              refine VE.then_ret ?_
              refine ret1 rfl rfl (fun w1 hw => ?_)
              exact ⟨⟨(⟨_, tx_mono (tx_app (tx_app (tx_app ht81 (tx_dec (by (try dsimp only); omega))) (show tx ⟨#[32]⟩ 1 from ⟨by decide, by decide⟩)) hs28) (by first | omega | (simp only [List.length_cons, List.length_nil]; omega) | (have h1 := hd126.m2; have h2 := hd126.wl; have h3 := hd126.gl; omega) | (simp only [List.length_take]; omega))⟩, n83, s83), trivial, by assumption, by (try dsimp only); omega, by (try dsimp only); omega⟩, rfl, hw.pick (by apply Pick.app1; (· repeat (first | exact Rem.here | exact Rem.all | exact Rem.hereS | apply Rem.there | apply Rem.thereS)); apply Pick.cons1; (· repeat (first | exact Rem.here | exact Rem.all | exact Rem.hereS | apply Rem.there | apply Rem.thereS)); apply Pick.cons1; (· repeat (first | exact Rem.here | exact Rem.all | exact Rem.hereS | apply Rem.there | apply Rem.thereS)); exact Pick.nil)⟩
          · skip
            replace h5 := ic_eql' h5
            refine V.seq ?_
            refine V.region ?_
            refine VL.r (.inl rfl) rfl (by decide) (yr_icmp rfl (.inl rfl) rfl rfl) ?_
            refine VL.r (.inl rfl) rfl (by decide) (yr_assign rfl rfl) ?_
            refine VL.nil ?_
            refine VE.then_wp ?_
            refine V.cond rfl (fun h7 => ?_) (fun h7 => ?_)
            · skip
              replace h7 := ic_eql h7
              refine V.seq ?_
              refine V.region ?_
              refine VL.r (.inl rfl) rfl (by decide) (yr_move rfl rfl) ?_
              refine VL.new1 (.inl rfl) rfl (by decide) (yn_lit rfl Tryd.underlying25 elt9_Dz rfl (by decide) (.cons rfl (.cons rfl .nil)) (by first | (simp; done) | (simp [cn, cn1, cn0]; done)) rfl rfl rfl) ?_
              intro b92
              refine VL.c (.inl rfl) rfl (by decide) (yc_callf rfl known50_Dz (.cons rfl (.cons rfl .nil)) (by apply Pick.e2; all_goals (repeat (first | exact Rem.here | exact Rem.all | exact Rem.hereS | apply Rem.there | apply Rem.thereS))) (c_textD (b := some ⟨b92, 0, none⟩) (d := 2) (ss := [⟨#[102, 105, 101, 108, 100, 32]⟩, ⟨#[110, 101, 101, 100, 108, 101, 32]⟩]) (cap := 2 * 1) (m := 60) hA hb hl (by (try dsimp only); omega) (by (try dsimp only); omega) (txs_of (by decide +kernel)) (by decide))) ?_
              rintro ⟨⟨⟨t93, ht93⟩, n93, s93⟩, hv93, hs93, hn93, hm93⟩
              dsimp only at hv93 hs93 hn93 hm93
              refine VL.r (.inl rfl) rfl (by decide) (yr_move rfl rfl) ?_
              refine VL.c (.inl rfl) rfl (by decide) (yc_callf rfl known56_Dz (.cons rfl .nil) (by apply Pick.one; repeat (first | exact Rem.here | apply Rem.there | apply Rem.thereS)) (c_dvec hA hb hl (by (try dsimp only); omega) (by (try dsimp only); omega))) ?_
              rintro ⟨⟨⟨f95, g95, h95⟩, n95, s95⟩, hv95, hs95, hn95, hm95⟩
              dsimp only at hv95 hs95 hn95 hm95
              refine VL.new (.inl rfl) rfl (by decide) (yn_callf rfl known55_Dz (.cons rfl .nil) (fun w hw => (c_vtext (x1 := f95) (x2 := g95) (x3 := h95)))) ?_
              rintro ⟨s96, hs96⟩
              dsimp only
              refine VL.r (.inl rfl) rfl (by decide) (yr_catT rfl rfl rfl ht93 hs96 (by first | omega | (simp only [List.length_cons, List.length_nil]; omega) | (have h1 := hd126.m2; have h2 := hd126.wl; have h3 := hd126.gl; omega) | (simp only [List.length_take]; omega))) ?_
              refine VL.r (.inl rfl) rfl (by decide) (yr_assign rfl rfl) ?_
              refine VL.nil ?_
              refine VE.then_wp ?_
              refine V.ret ?_
              refine VE.block_ret ?_
              refine VE.then_ret ?_
              refine ret1 rfl rfl (fun w1 hw => ?_)
              exact ⟨⟨(⟨_, tx_mono (tx_app ht93 hs96) (by first | omega | (simp only [List.length_cons, List.length_nil]; omega) | (have h1 := hd126.m2; have h2 := hd126.wl; have h3 := hd126.gl; omega) | (simp only [List.length_take]; omega))⟩, n95, s95), trivial, by assumption, by (try dsimp only); omega, by (try dsimp only); omega⟩, rfl, hw.pick (by apply Pick.app1; (· repeat (first | exact Rem.here | exact Rem.all | exact Rem.hereS | apply Rem.there | apply Rem.thereS)); apply Pick.cons1; (· repeat (first | exact Rem.here | exact Rem.all | exact Rem.hereS | apply Rem.there | apply Rem.thereS)); apply Pick.cons1; (· repeat (first | exact Rem.here | exact Rem.all | exact Rem.hereS | apply Rem.there | apply Rem.thereS)); exact Pick.nil)⟩
            · skip
              replace h7 := ic_eql' h7
              refine V.seq ?_
              refine V.region ?_
              refine VL.r (.inl rfl) rfl (by decide) (yr_icmp rfl (.inl rfl) rfl rfl) ?_
              refine VL.r (.inl rfl) rfl (by decide) (yr_assign rfl rfl) ?_
              refine VL.nil ?_
              refine VE.then_wp ?_
              refine V.cond rfl (fun h8 => ?_) (fun h8 => ?_)
              · skip
                replace h8 := ic_eql h8
                refine V.seq ?_
                refine V.region ?_
                refine VL.new1 (.inl rfl) rfl (by decide) (yn_buildSlice rfl Tryd.underlying38 elt104_Dz rfl (by decide) .nil (by first | (simp; done) | (simp [vv]; done)) rfl rfl) ?_
                intro b100
                refine VL.r (.inl rfl) rfl (by decide) (yr_assign rfl rfl) ?_
                refine VL.nil ?_
                refine VE.then_wp ?_
                refine V.seq ?_
                refine V.seq ?_
                refine V.region ?_
                refine VL.r (.inl rfl) rfl (by decide) (yr_move rfl rfl) ?_
                refine VL.c (.inl rfl) rfl (by decide) (yc_callf rfl known35_Dz (.cons rfl (.cons rfl .nil)) (by apply Pick.one; repeat (first | exact Rem.here | apply Rem.there | apply Rem.thereS)) (c_pickG (m := 3) hA hb hl (by (try dsimp only); omega) (by (try dsimp only); omega) (by (try dsimp only); omega) (by (try dsimp only); omega))) ?_
                rintro ⟨⟨x102, n102, s102⟩, hx102, hs102, hn102, hm102⟩
                dsimp only at hx102 hs102 hn102 hm102
                refine VL.r (.inl rfl) rfl (by decide) (yr_assign rfl rfl) ?_
                refine VL.nil ?_
                refine VE.then_wp ?_
                refine V.block ?_
                refine V.loopc (G := (List Pl) × (Option Addr) × Nat × Nat × Nat) [(0, _)] (fun ⟨ps, ar, cr, nn, sd1⟩ => ps.length ≤ x102 ∧ (n ≤ nn ∧ nn ≤ n + 8 + 40 * ps.length) ∧ sd1 < 18446744073709551616) (fun ⟨ps, ar, cr, nn, sd1⟩ => (⟨ar, pl ps, cr * 4, 104⟩ :: ⟨some ⟨q, 0, none⟩, [.slice a bs.length c, .int .i64 ((nn : Nat) : Int), .int .u64 ((sd1 : Nat) : Int)], 3, 87⟩ :: ⟨some ⟨q2, 0, none⟩, .slice aw nw cw :: ds, 5, 43⟩ :: F)) (fun ⟨ps, ar, cr, nn, sd1⟩ => [(9, .slice ar ps.length cr), (10, .int .i64 ((x102 - ps.length : Nat) : Int))]) (fun ⟨ps, ar, cr, nn, sd1⟩ => x102 - ps.length) ([], some ⟨b100, 0, none⟩, 0, n102, s102) (.cons rfl .nil) (.cons rfl (.cons rfl .nil)) ?_ ?_ ?_
                · exact (fun w hw => hw.pick (by apply Pick.cons1; (· repeat (first | exact Rem.here | exact Rem.all | exact Rem.hereS | apply Rem.there | apply Rem.thereS)); apply Pick.cons1; (· repeat (first | exact Rem.here | exact Rem.all | exact Rem.hereS | apply Rem.there | apply Rem.thereS)); apply Pick.cons1; (· repeat (first | exact Rem.here | exact Rem.all | exact Rem.hereS | apply Rem.there | apply Rem.thereS)); apply Pick.last; repeat (first | exact Rem.here | exact Rem.all | exact Rem.hereS | apply Rem.there | apply Rem.thereS)))
                · exact (by exact ⟨Nat.zero_le _, ⟨by (try dsimp only); omega, by (try dsimp only); simp only [List.length_nil]; omega⟩, hs102⟩)
                rintro ⟨ps, ar, cr, nn, sd1⟩ ⟨hp9, hn98, hd98⟩
                show V _ _ _ (⟨ar, pl ps, cr * 4, 104⟩ :: ⟨some ⟨q, 0, none⟩, [.slice a bs.length c, .int .i64 ((nn : Nat) : Int), .int .u64 ((sd1 : Nat) : Int)], 3, 87⟩ :: ⟨some ⟨q2, 0, none⟩, .slice aw nw cw :: ds, 5, 43⟩ :: F) ([(9, .slice ar ps.length cr), (10, .int .i64 ((x102 - ps.length : Nat) : Int))] ++ [(0, _)]) _ _
                refine V.seq ?_
                refine V.seq ?_
                refine V.region ?_
                refine VL.r (.inl rfl) rfl (by decide) (yr_move rfl rfl) ?_
                refine VL.r (.inl rfl) rfl (by decide) (yr_icmp rfl (.inr (.inr (.inr (.inr (.inl rfl))))) rfl rfl) ?_
                refine VL.nil ?_
                refine VE.then_wp ?_
                refine V.cond rfl (fun h9 => ?_) (fun h9 => ?_)
                · skip
                  replace h9 := ic_gtr h9
                  refine V.skip ?_
                  refine VE.then_wp ?_
                  refine V.seq ?_
                  refine V.block ?_
                  refine V.region ?_
                  refine VL.r (.inl rfl) rfl (by decide) (yr_move rfl rfl) ?_
                  refine VL.r (.inl rfl) rfl (by decide) (yr_move rfl rfl) ?_
                  refine VL.c (.inl rfl) rfl (by decide) (yc_callf rfl known57_Dz (.cons rfl .nil) (by apply Pick.one; repeat (first | exact Rem.here | apply Rem.there | apply Rem.thereS)) (c_dpole hA hb hl (by (try dsimp only); omega) (by (try dsimp only); omega))) ?_
                  rintro ⟨⟨⟨⟨f109, g109, h109⟩, k109⟩, n109, s109⟩, hv109, hs109, hn109, hm109⟩
                  dsimp only at hv109 hs109 hn109 hm109
                  refine VL.new1 (.inl rfl) rfl (by decide) (yn_buildSlice rfl Tryd.underlying38 elt104_Dz rfl (by decide) (.cons rfl .nil) (by first | (simp; done) | (simp [vv]; done)) rfl rfl) ?_
                  intro b110
                  refine VL.c (.inl rfl) rfl (by decide) (yc_appendz 4 rfl rfl Tryd.underlying38 elt104_Dz rfl rfl (by repeat (first | exact UpdF.here | apply UpdF.there | apply UpdF.thereS)) (by first | exact Sees.root (by assumption) | exact Sees.own (by repeat (first | exact List.mem_cons_self | exact List.mem_append_left _ (by assumption) | apply List.mem_cons_of_mem | apply List.mem_append_right)) | exact Sees.root (hR _ (by omega)) | exact Sees.own (RowsIn.mem (by repeat (first | exact RowsIn.here | exact RowsIn.last | apply RowsIn.there | apply RowsIn.thereS)) _ (by omega)) | exact Sees.own (WRowsIn.mem (by repeat (first | exact WRowsIn.here | exact WRowsIn.last | apply WRowsIn.there | apply WRowsIn.thereS)) _ (by omega))) rfl (by rw [pl_length]) rfl (pl_scal _) rfl (by omega) (by omega)) ?_
                  rintro ⟨a111, c111⟩
                  refine VL.r (.inl rfl) rfl (by decide) (yr_assign rfl rfl) ?_
                  refine VL.nil ?_
                  refine VE.block_normal ?_
                  refine VE.then_wp ?_
                  refine V.region ?_
                  refine VL.r (.inl rfl) rfl (by decide) (yr_move rfl rfl) ?_
                  refine VL.r (.inl rfl) rfl (by decide) (yr_int rfl rfl rfl (.inr (.inl ⟨rfl, wrap_in (by (try dsimp only); omega)⟩))) ?_
                  refine VL.r (.inl rfl) rfl (by decide) (yr_assign rfl rfl) ?_
                  refine VL.nil ?_
                  refine VE.round (ps ++ [((f109, g109, h109), k109)], a111, c111, n109, s109) ?_ ?_ ?_ ?_ ?_
                  · exact (.cons (congrArg (fun n => some (Value.slice _ n _)) (by first | rfl | (rw [List.length_append]; rfl))) (.cons (congrArg (fun i => some (Value.int .i64 i)) (by rw [List.length_append]; show _ = ((x102 - (ps.length + 1) : Nat) : Int); omega)) .nil))
                  · exact (.cons rfl .nil)
                  · exact (fun w hw => by dsimp only; rw [← pl_snoc]; exact hw.pick (by apply Pick.cons1; (· repeat (first | exact Rem.here | exact Rem.all | exact Rem.hereS | apply Rem.there | apply Rem.thereS)); apply Pick.cons1; (· repeat (first | exact Rem.here | exact Rem.all | exact Rem.hereS | apply Rem.there | apply Rem.thereS)); apply Pick.cons1; (· repeat (first | exact Rem.here | exact Rem.all | exact Rem.hereS | apply Rem.there | apply Rem.thereS)); apply Pick.last; repeat (first | exact Rem.here | exact Rem.all | exact Rem.hereS | apply Rem.there | apply Rem.thereS)))
                  · dsimp only
                    rw [List.length_append]
                    exact ⟨by show ps.length + 1 ≤ x102; omega, ⟨by omega, by show n109 ≤ n + 8 + 40 * (ps.length + 1); omega⟩, hs109⟩
                  · dsimp only; rw [List.length_append]; show x102 - (ps.length + 1) < x102 - ps.length; omega
                · skip
                  replace h9 := ic_gtr' h9
                  refine V.exit ?_
                  refine VE.then_exit ?_
                  refine VE.then_exit ?_
                  refine VE.block_here ?_
                  refine VE.then_wp ?_
                  refine V.seq ?_
                  refine V.region ?_
                  refine VL.r (.inl rfl) rfl (by decide) (yr_move rfl rfl) ?_
                  refine VL.new (.inl rfl) rfl (by decide) (yn_callf rfl known58_Dz (.cons rfl .nil) (fun w hw => (c_polesT (ps := ps) (by first | exact Sees.root (by assumption) w hw | exact Sees.own (by repeat (first | exact List.mem_cons_self | exact List.mem_append_left _ (by assumption) | apply List.mem_cons_of_mem | apply List.mem_append_right)) w hw) (by omega)))) ?_
                  rintro ⟨s113, hs113⟩
                  dsimp only
                  refine VL.r (.inl rfl) rfl (by decide) (yr_catT rfl rfl rfl (show tx ⟨#[109, 97, 103, 110, 101, 116, 32]⟩ 7 from ⟨by decide, by decide⟩) hs113 (by first | omega | (simp only [List.length_cons, List.length_nil]; omega) | (have h1 := hd126.m2; have h2 := hd126.wl; have h3 := hd126.gl; omega) | (simp only [List.length_take]; omega))) ?_
                  refine VL.r (.inl rfl) rfl (by decide) (yr_assign rfl rfl) ?_
                  refine VL.nil ?_
                  refine VE.then_wp ?_
                  refine V.ret ?_
                  refine VE.block_ret ?_
                  refine VE.then_ret ?_
                  refine ret1 rfl rfl (fun w1 hw => ?_)
                  exact ⟨⟨(⟨_, tx_mono (tx_app (show tx ⟨#[109, 97, 103, 110, 101, 116, 32]⟩ 7 from ⟨by decide, by decide⟩) hs113) (by first | omega | (simp only [List.length_cons, List.length_nil]; omega) | (have h1 := hd126.m2; have h2 := hd126.wl; have h3 := hd126.gl; omega) | (simp only [List.length_take]; omega))⟩, nn, sd1), trivial, by assumption, by (try dsimp only); omega, by (try dsimp only); omega⟩, rfl, hw.pick (by apply Pick.app1; (· repeat (first | exact Rem.here | exact Rem.all | exact Rem.hereS | apply Rem.there | apply Rem.thereS)); apply Pick.cons1; (· repeat (first | exact Rem.here | exact Rem.all | exact Rem.hereS | apply Rem.there | apply Rem.thereS)); apply Pick.cons1; (· repeat (first | exact Rem.here | exact Rem.all | exact Rem.hereS | apply Rem.there | apply Rem.thereS)); exact Pick.nil)⟩
              · skip
                replace h8 := ic_eql' h8
                refine V.seq ?_
                refine V.region ?_
                refine VL.r (.inl rfl) rfl (by decide) (yr_icmp rfl (.inl rfl) rfl rfl) ?_
                refine VL.r (.inl rfl) rfl (by decide) (yr_assign rfl rfl) ?_
                refine VL.nil ?_
                refine VE.then_wp ?_
                refine V.cond rfl (fun h10 => ?_) (fun h10 => ?_)
                · skip
                  replace h10 := ic_eql h10
                  refine V.seq ?_
                  refine V.region ?_
                  refine VL.r (.inl rfl) rfl (by decide) (yr_move rfl rfl) ?_
                  refine VL.c (.inl rfl) rfl (by decide) (yc_callf rfl known59_Dz (.cons rfl .nil) (by apply Pick.one; repeat (first | exact Rem.here | apply Rem.there | apply Rem.thereS)) (c_dcirc hA hb hl (by (try dsimp only); omega) (by (try dsimp only); omega))) ?_
                  rintro ⟨⟨⟨⟨⟨a118, c118⟩, xs118⟩, ⟨⟨d118, e118⟩, ys118⟩, ⟨f118, g118⟩, zs118⟩, n118, s118⟩, hv118, hs118, hn118, hm118⟩
                  dsimp only at hv118 hs118 hn118 hm118
                  refine VL.new1 (.inl rfl) rfl (by decide) (yn_alloc rfl zero41_Dz rfl) ?_
                  intro b11
                  refine VL.s (.inl rfl) rfl (yc_store rfl sz41_Dz rfl rfl (by repeat (first | exact UpdF.here | apply UpdF.there | apply UpdF.thereS)) (.inr ⟨rfl, rfl⟩) rfl (by first | exact Nat.le_of_ble_eq_true rfl | simp) (by decide) rfl) ?_
                  rintro ⟨⟩
                  refine VL.nil ?_
                  refine VE.then_wp ?_
                  refine V.seq ?_
                  refine V.region ?_
                  refine VL.new (.inl rfl) rfl (by decide) (yn_callf rfl known60_Dz (.cons rfl .nil) (fun w hw => (c_circT (q := some ⟨b11, 0, none⟩) (xs := xs118) (ys := ys118) (zs := zs118) (by first | exact Sees.root (by assumption) w hw | exact Sees.own (by repeat (first | exact List.mem_cons_self | exact List.mem_append_left _ (by assumption) | apply List.mem_cons_of_mem | apply List.mem_append_right)) w hw) (by first | exact Sees.root (by assumption) w hw | exact Sees.own (by repeat (first | exact List.mem_cons_self | exact List.mem_append_left _ (by assumption) | apply List.mem_cons_of_mem | apply List.mem_append_right)) w hw) (by first | exact Sees.root (by assumption) w hw | exact Sees.own (by repeat (first | exact List.mem_cons_self | exact List.mem_append_left _ (by assumption) | apply List.mem_cons_of_mem | apply List.mem_append_right)) w hw) (by first | exact Sees.root (by assumption) w hw | exact Sees.own (by repeat (first | exact List.mem_cons_self | exact List.mem_append_left _ (by assumption) | apply List.mem_cons_of_mem | apply List.mem_append_right)) w hw) (by omega) (by omega) (by omega)))) ?_
                  rintro ⟨s119, hs119⟩
                  dsimp only
                  refine VL.r (.inl rfl) rfl (by decide) (yr_catT rfl rfl rfl (show tx ⟨#[99, 105, 114, 99, 117, 105, 116, 32]⟩ 8 from ⟨by decide, by decide⟩) hs119 (by first | omega | (simp only [List.length_cons, List.length_nil]; omega) | (have h1 := hd126.m2; have h2 := hd126.wl; have h3 := hd126.gl; omega) | (simp only [List.length_take]; omega))) ?_
                  refine VL.r (.inl rfl) rfl (by decide) (yr_assign rfl rfl) ?_
                  refine VL.nil ?_
                  refine VE.then_wp ?_
                  refine V.ret ?_
                  refine VE.block_ret ?_
                  refine VE.then_ret ?_
                  refine ret1 rfl rfl (fun w1 hw => ?_)
                  exact ⟨⟨(⟨_, tx_mono (tx_app (show tx ⟨#[99, 105, 114, 99, 117, 105, 116, 32]⟩ 8 from ⟨by decide, by decide⟩) hs119) (by first | omega | (simp only [List.length_cons, List.length_nil]; omega) | (have h1 := hd126.m2; have h2 := hd126.wl; have h3 := hd126.gl; omega) | (simp only [List.length_take]; omega))⟩, n118, s118), trivial, by assumption, by (try dsimp only); omega, by (try dsimp only); omega⟩, rfl, hw.pick (by apply Pick.app1; (· repeat (first | exact Rem.here | exact Rem.all | exact Rem.hereS | apply Rem.there | apply Rem.thereS)); apply Pick.cons1; (· repeat (first | exact Rem.here | exact Rem.all | exact Rem.hereS | apply Rem.there | apply Rem.thereS)); apply Pick.cons1; (· repeat (first | exact Rem.here | exact Rem.all | exact Rem.hereS | apply Rem.there | apply Rem.thereS)); exact Pick.nil)⟩
                · skip
                  replace h10 := ic_eql' h10
                  refine V.seq ?_
                  refine V.region ?_
                  refine VL.r (.inl rfl) rfl (by decide) (yr_icmp rfl (.inl rfl) rfl rfl) ?_
                  refine VL.r (.inl rfl) rfl (by decide) (yr_assign rfl rfl) ?_
                  refine VL.nil ?_
                  refine VE.then_wp ?_
                  refine V.cond rfl (fun h11 => ?_) (fun h11 => ?_)
                  · skip
                    replace h11 := ic_eql h11
                    refine V.seq ?_
                    refine V.seq ?_
                    refine V.region ?_
                    refine VL.r (.inl rfl) rfl (by decide) (yr_move rfl rfl) ?_
                    refine VL.c (.inl rfl) rfl (by decide) (yc_callf rfl known54_Dz (.cons rfl (.cons rfl .nil)) (by apply Pick.one; repeat (first | exact Rem.here | apply Rem.there | apply Rem.thereS)) (c_one (m := 3) hA hb hl (by (try dsimp only); omega) (by (try dsimp only); omega) (by decide) (by decide))) ?_
                    rintro ⟨⟨v124, n124, s124⟩, hv124, hs124, hn124, hm124⟩
                    dsimp only at hv124 hs124 hn124 hm124
                    refine VL.nil ?_
                    refine VE.then_wp ?_
                    refine V.cond rfl (fun h12 => ?_) (fun h12 => ?_)
                    · skip
                      refine V.seq ?_
                      refine V.region ?_
                      refine VL.r (.inl rfl) rfl (by decide) (yr_move rfl rfl) ?_
                      refine VL.c (.inl rfl) rfl (by decide) (yc_callf rfl known61_Dz (.cons rfl .nil) (by apply Pick.one; repeat (first | exact Rem.here | apply Rem.there | apply Rem.thereS)) (c_drawOk hA hb hl (by (try dsimp only); omega) (by (try dsimp only); omega))) ?_
                      rintro ⟨⟨⟨⟨⟨a126, c126⟩, f126⟩, ⟨p126, q126⟩, ⟨r126, s126⟩⟩, xss126, ws126, gs126, n126, at126, sd126⟩, hd126, hat126, hsd126⟩
                      dsimp only at hd126 hat126 hsd126
                      refine VL.new1 (.inl rfl) rfl (by decide) (yn_alloc rfl zero112_Dz rfl) ?_
                      intro b12
                      refine VL.s (.inl rfl) rfl (yc_store rfl sz112_Dz rfl rfl (by repeat (first | exact UpdF.here | apply UpdF.there | apply UpdF.thereS)) (.inr ⟨rfl, rfl⟩) rfl (by first | exact Nat.le_of_ble_eq_true rfl | simp) (by decide) rfl) ?_
                      rintro ⟨⟩
                      refine VL.nil ?_
                      refine VE.then_wp ?_
                      refine V.seq ?_
                      refine V.region ?_
                      refine VL.new (.inl rfl) rfl (by decide) (yn_callf rfl known62_Dz (.cons rfl .nil) (fun w hw => (c_designT (q := some ⟨b12, 0, none⟩) (xss := xss126) (ws := ws126) (gs := gs126) (f := f126) (by first | exact Sees.root (by assumption) w hw | exact Sees.own (by repeat (first | exact List.mem_cons_self | exact List.mem_append_left _ (by assumption) | apply List.mem_cons_of_mem | apply List.mem_append_right)) w hw) (by first | exact Sees.root (by assumption) w hw | exact Sees.own (by repeat (first | exact List.mem_cons_self | exact List.mem_append_left _ (by assumption) | apply List.mem_cons_of_mem | apply List.mem_append_right)) w hw) (by first | exact Rws.root (by assumption) hw | exact Rws.own (by repeat (first | exact RowsIn.here | exact RowsIn.last | apply RowsIn.there | apply RowsIn.thereS)) hw) (by first | exact Sees.root (by assumption) w hw | exact Sees.own (by repeat (first | exact List.mem_cons_self | exact List.mem_append_left _ (by assumption) | apply List.mem_cons_of_mem | apply List.mem_append_right)) w hw) (by first | exact Sees.root (by assumption) w hw | exact Sees.own (by repeat (first | exact List.mem_cons_self | exact List.mem_append_left _ (by assumption) | apply List.mem_cons_of_mem | apply List.mem_append_right)) w hw) (by have h1 := hd126.m2; omega) (by have h1 := hd126.m2; have h2 := hd126.wl; omega) (by have h1 := hd126.m2; have h2 := hd126.gl; omega) (fun i hi => by have h1 := (getD_H hd126.rows hi []).1; have h2 := hd126.n2; omega)))) ?_
                      rintro ⟨s127, hs127⟩
                      dsimp only
                      refine VL.r (.inl rfl) rfl (by decide) (yr_catT rfl rfl rfl (show tx ⟨#[102, 105, 116, 32]⟩ 4 from ⟨by decide, by decide⟩) hs127 (by first | omega | (simp only [List.length_cons, List.length_nil]; omega) | (have h1 := hd126.m2; have h2 := hd126.wl; have h3 := hd126.gl; omega) | (simp only [List.length_take]; omega))) ?_
                      refine VL.r (.inl rfl) rfl (by decide) (yr_catT rfl rfl rfl (tx_app (show tx ⟨#[102, 105, 116, 32]⟩ 4 from ⟨by decide, by decide⟩) hs127) (show tx ⟨#[32]⟩ 1 from ⟨by decide, by decide⟩) (by first | omega | (simp only [List.length_cons, List.length_nil]; omega) | (have h1 := hd126.m2; have h2 := hd126.wl; have h3 := hd126.gl; omega) | (simp only [List.length_take]; omega))) ?_
                      refine VL.r (.inl rfl) rfl (by decide) (yr_move rfl rfl) ?_
                      refine VL.c (.inl rfl) rfl (by decide) (yc_callf rfl known35_Dz (.cons rfl (.cons rfl .nil)) (by apply Pick.one; repeat (first | exact Rem.here | apply Rem.there | apply Rem.thereS)) (c_pickG (m := 3) hA hb hl (by (try dsimp only); omega) (by (try dsimp only); omega) (by (try dsimp only); omega) (by (try dsimp only); omega))) ?_
                      rintro ⟨⟨x131, n131, s131⟩, hx131, hs131, hn131, hm131⟩
                      dsimp only at hx131 hs131 hn131 hm131
                      refine VL.r (.inl rfl) rfl (by decide) (yr_ofInt rfl Tryd.underlying2 Tryd.underlying90 rfl) ?_
                      refine VL.r (.inl rfl) rfl (by decide) (yr_float (b := 1073741824) rfl (.inr (.inr (.inr rfl))) rfl rfl) ?_
                      refine VL.new (.inl rfl) rfl (by decide) (yn_callf rfl known49_Dz (.cons rfl .nil) (fun w hw => c_hex)) ?_
                      rintro ⟨s134, hs134⟩
                      dsimp only
                      refine VL.r (.inl rfl) rfl (by decide) (yr_catT rfl rfl rfl (tx_app (tx_app (show tx ⟨#[102, 105, 116, 32]⟩ 4 from ⟨by decide, by decide⟩) hs127) (show tx ⟨#[32]⟩ 1 from ⟨by decide, by decide⟩)) hs134 (by first | omega | (simp only [List.length_cons, List.length_nil]; omega) | (have h1 := hd126.m2; have h2 := hd126.wl; have h3 := hd126.gl; omega) | (simp only [List.length_take]; omega))) ?_
                      refine VL.r (.inl rfl) rfl (by decide) (yr_assign rfl rfl) ?_
                      refine VL.nil ?_
                      refine VE.then_wp ?_
                      refine V.ret ?_
                      refine VE.then_ret ?_
                      refine VE.block_ret ?_
                      refine VE.then_ret ?_
                      refine ret1 rfl rfl (fun w1 hw => ?_)
                      exact ⟨⟨(⟨_, tx_mono (tx_app (tx_app (tx_app (show tx ⟨#[102, 105, 116, 32]⟩ 4 from ⟨by decide, by decide⟩) hs127) (show tx ⟨#[32]⟩ 1 from ⟨by decide, by decide⟩)) hs134) (by first | omega | (simp only [List.length_cons, List.length_nil]; omega) | (have h1 := hd126.m2; have h2 := hd126.wl; have h3 := hd126.gl; omega) | (simp only [List.length_take]; omega))⟩, n131, s131), trivial, by assumption, by (try dsimp only); omega, by (try dsimp only); omega⟩, rfl, hw.pick (by apply Pick.app1; (· repeat (first | exact Rem.here | exact Rem.all | exact Rem.hereS | apply Rem.there | apply Rem.thereS)); apply Pick.cons1; (· repeat (first | exact Rem.here | exact Rem.all | exact Rem.hereS | apply Rem.there | apply Rem.thereS)); apply Pick.cons1; (· repeat (first | exact Rem.here | exact Rem.all | exact Rem.hereS | apply Rem.there | apply Rem.thereS)); exact Pick.nil)⟩
                    · skip
                      refine V.skip ?_
                      refine VE.then_wp ?_
                      refine V.seq ?_
                      refine V.seq ?_
                      refine V.region ?_
                      refine VL.r (.inl rfl) rfl (by decide) (yr_move rfl rfl) ?_
                      refine VL.c (.inl rfl) rfl (by decide) (yc_callf rfl known54_Dz (.cons rfl (.cons rfl .nil)) (by apply Pick.one; repeat (first | exact Rem.here | apply Rem.there | apply Rem.thereS)) (c_one (m := 2) hA hb hl (by (try dsimp only); omega) (by (try dsimp only); omega) (by decide) (by decide))) ?_
                      rintro ⟨⟨v137, n137, s137⟩, hv137, hs137, hn137, hm137⟩
                      dsimp only at hv137 hs137 hn137 hm137
                      refine VL.nil ?_
                      refine VE.then_wp ?_
                      refine V.cond rfl (fun h13 => ?_) (fun h13 => ?_)
                      · skip
                        refine V.seq ?_
                        refine V.region ?_
                        refine VL.r (.inl rfl) rfl (by decide) (yr_move rfl rfl) ?_
                        refine VL.c (.inl rfl) rfl (by decide) (yc_callf rfl known63_Dz (.cons rfl .nil) (by apply Pick.one; repeat (first | exact Rem.here | apply Rem.there | apply Rem.thereS)) (c_dfields hA hb hl (by (try dsimp only); omega) (by (try dsimp only); omega))) ?_
                        rintro ⟨⟨⟨⟨⟨a139, c139⟩, xs139⟩, hz139⟩, n139, s139⟩, hv139, hs139, hn139, hm139⟩
                        dsimp only at hv139 hs139 hn139 hm139
                        refine VL.r (.inl rfl) rfl (by decide) (yr_assign rfl rfl) ?_
                        refine VL.nil ?_
                        refine VE.then_wp ?_
                        refine V.seq ?_
                        refine V.seq ?_
                        refine V.region ?_
                        refine VL.r (.inl rfl) rfl (by decide) (yr_move rfl rfl) ?_
                        refine VL.r (.inl rfl) rfl (by decide) (yr_len rfl Tryd.underlying39 rfl) ?_
                        refine VL.r (.inl rfl) rfl (by decide) (yr_icmp rfl (.inr (.inr (.inr (.inr (.inl rfl))))) rfl rfl) ?_
                        refine VL.nil ?_
                        refine VE.then_wp ?_
                        refine V.cond rfl (fun h14 => ?_) (fun h14 => ?_)
                        · skip
                          replace h14 := ic_gtr h14
                          refine VX.addr (us := fl xs139) (by repeat (first | exact List.mem_cons_self | exact List.mem_append_left _ (by assumption) | apply List.mem_cons_of_mem | apply List.mem_append_right)) (by intro h9; have h8 := congrArg List.length h9; rw [fl_length] at h8; simp only [List.length_nil] at h8; dsimp only at h14; omega) (fun b139 hb139 hc139 => ?_)
                          obtain rfl : a139 = some ⟨b139, 0, none⟩ := hb139
                          rw [fl_length] at hc139
                          replace hc139 : xs139.length ≤ c139 := by dsimp only at hc139; omega
                          replace h14 : 12 < xs139.length := by dsimp only at h14; omega
                          refine V.region ?_
                          refine VL.r (.inl rfl) rfl (by decide) (yr_move rfl rfl) ?_
                          refine VL.r (.inl rfl) rfl (by decide) (show YR _ _ _ (.slice (some ⟨b139, 0, none⟩) (xs139.take 12).length c139) from by rw [List.length_take, Nat.min_eq_left (by omega)]; exact yr_head (l := 12) rfl Tryd.underlying39 sz90_Dz rfl rfl rfl (by omega)) ?_
                          refine VL.r (.inl rfl) rfl (by decide) (yr_assign rfl rfl) ?_
                          refine VL.nil ?_
                          refine VE.then_wp ?_
                          refine V.seq ?_
                          refine V.region ?_
                          refine VL.r (.inl rfl) rfl (by decide) (yr_move rfl rfl) ?_
                          refine VL.c (.inl rfl) rfl (by decide) (yc_callf rfl known35_Dz (.cons rfl (.cons rfl .nil)) (by apply Pick.one; repeat (first | exact Rem.here | apply Rem.there | apply Rem.thereS)) (c_pickG (m := 4) hA hb hl (by (try dsimp only); omega) (by (try dsimp only); omega) (by (try dsimp only); omega) (by (try dsimp only); omega))) ?_
                          rintro ⟨⟨x146, n146, s146⟩, hx146, hs146, hn146, hm146⟩
                          dsimp only at hx146 hs146 hn146 hm146
                          refine VL.r (.inl rfl) rfl (by decide) (yr_addN (2 + x146) rfl rfl rfl (by push_cast; rfl) (by omega)) ?_
                          refine VL.q (.inl rfl) rfl (by decide) (yq_callf rfl known41_Dz (.cons rfl .nil) (fun w hw => (c_dec (by (try dsimp only); omega)))) ?_
                          refine VL.r (.inl rfl) rfl (by decide) (yr_catT rfl rfl rfl (show tx ⟨#[105, 114, 111, 110, 32]⟩ 5 from ⟨by decide, by decide⟩) (tx_dec (by (try dsimp only); omega)) (by first | omega | (simp only [List.length_cons, List.length_nil]; omega) | (have h1 := hd126.m2; have h2 := hd126.wl; have h3 := hd126.gl; omega) | (simp only [List.length_take]; omega))) ?_
                          refine VL.r (.inl rfl) rfl (by decide) (yr_catT rfl rfl rfl (tx_app (show tx ⟨#[105, 114, 111, 110, 32]⟩ 5 from ⟨by decide, by decide⟩) (tx_dec (by (try dsimp only); omega))) (show tx ⟨#[32]⟩ 1 from ⟨by decide, by decide⟩) (by first | omega | (simp only [List.length_cons, List.length_nil]; omega) | (have h1 := hd126.m2; have h2 := hd126.wl; have h3 := hd126.gl; omega) | (simp only [List.length_take]; omega))) ?_
                          refine VL.r (.inl rfl) rfl (by decide) (yr_move rfl rfl) ?_
                          refine VL.r (.inl rfl) rfl (by decide) (yr_catT rfl rfl rfl (tx_app (tx_app (show tx ⟨#[105, 114, 111, 110, 32]⟩ 5 from ⟨by decide, by decide⟩) (tx_dec (by (try dsimp only); omega))) (show tx ⟨#[32]⟩ 1 from ⟨by decide, by decide⟩)) hs28 (by first | omega | (simp only [List.length_cons, List.length_nil]; omega) | (have h1 := hd126.m2; have h2 := hd126.wl; have h3 := hd126.gl; omega) | (simp only [List.length_take]; omega))) ?_
                          refine VL.r (.inl rfl) rfl (by decide) (yr_catT rfl rfl rfl (tx_app (tx_app (tx_app (show tx ⟨#[105, 114, 111, 110, 32]⟩ 5 from ⟨by decide, by decide⟩) (tx_dec (by (try dsimp only); omega))) (show tx ⟨#[32]⟩ 1 from ⟨by decide, by decide⟩)) hs28) (show tx ⟨#[32]⟩ 1 from ⟨by decide, by decide⟩) (by first | omega | (simp only [List.length_cons, List.length_nil]; omega) | (have h1 := hd126.m2; have h2 := hd126.wl; have h3 := hd126.gl; omega) | (simp only [List.length_take]; omega))) ?_
                          refine VL.r (.inl rfl) rfl (by decide) (yr_move rfl rfl) ?_
                          refine VL.new (.inl rfl) rfl (by decide) (yn_callf rfl known64_Dz (.cons rfl .nil) (fun w hw => (c_ntext (xs := xs139.take 12) (by rw [← fl_take]; exact (Sees.take 12 (by first | exact Sees.root (by assumption) | exact Sees.own (by repeat (first | exact List.mem_cons_self | exact List.mem_append_left _ (by assumption) | apply List.mem_cons_of_mem | apply List.mem_append_right)) | exact Sees.root (hR _ (by omega)) | exact Sees.own (RowsIn.mem (by repeat (first | exact RowsIn.here | exact RowsIn.last | apply RowsIn.there | apply RowsIn.thereS)) _ (by omega)) | exact Sees.own (WRowsIn.mem (by repeat (first | exact WRowsIn.here | exact WRowsIn.last | apply WRowsIn.there | apply WRowsIn.thereS)) _ (by omega)))) w hw) (by rw [List.length_take]; omega)))) ?_
                          rintro ⟨s155, hs155⟩
                          dsimp only
                          refine VL.r (.inl rfl) rfl (by decide) (yr_catT rfl rfl rfl (tx_app (tx_app (tx_app (tx_app (show tx ⟨#[105, 114, 111, 110, 32]⟩ 5 from ⟨by decide, by decide⟩) (tx_dec (by (try dsimp only); omega))) (show tx ⟨#[32]⟩ 1 from ⟨by decide, by decide⟩)) hs28) (show tx ⟨#[32]⟩ 1 from ⟨by decide, by decide⟩)) hs155 (by first | omega | (simp only [List.length_cons, List.length_nil]; omega) | (have h1 := hd126.m2; have h2 := hd126.wl; have h3 := hd126.gl; omega) | (simp only [List.length_take]; omega))) ?_
                          refine VL.r (.inl rfl) rfl (by decide) (yr_assign rfl rfl) ?_
                          refine VL.nil ?_
                          refine VE.then_wp ?_
                          refine V.ret ?_
                          refine VE.then_ret ?_
                          refine VE.block_ret ?_
                          refine VE.then_ret ?_
                          refine ret1 rfl rfl (fun w1 hw => ?_)
                          exact ⟨⟨(⟨_, tx_mono (tx_app (tx_app (tx_app (tx_app (tx_app (show tx ⟨#[105, 114, 111, 110, 32]⟩ 5 from ⟨by decide, by decide⟩) (tx_dec (by (try dsimp only); omega))) (show tx ⟨#[32]⟩ 1 from ⟨by decide, by decide⟩)) hs28) (show tx ⟨#[32]⟩ 1 from ⟨by decide, by decide⟩)) hs155) (by first | omega | (simp only [List.length_cons, List.length_nil]; omega) | (have h1 := hd126.m2; have h2 := hd126.wl; have h3 := hd126.gl; omega) | (simp only [List.length_take]; omega))⟩, n146, s146), trivial, by assumption, by (try dsimp only); omega, by (try dsimp only); omega⟩, rfl, hw.pick (by apply Pick.app1; (· repeat (first | exact Rem.here | exact Rem.all | exact Rem.hereS | apply Rem.there | apply Rem.thereS)); apply Pick.cons1; (· repeat (first | exact Rem.here | exact Rem.all | exact Rem.hereS | apply Rem.there | apply Rem.thereS)); apply Pick.cons1; (· repeat (first | exact Rem.here | exact Rem.all | exact Rem.hereS | apply Rem.there | apply Rem.thereS)); exact Pick.nil)⟩
                        · skip
                          replace h14 := ic_gtr' h14
                          have hx12 : xs139.length ≤ 12 := by (try dsimp only at h14); omega
                          refine V.skip ?_
                          refine VE.then_wp ?_
                          refine V.seq ?_
                          refine V.region ?_
                          refine VL.r (.inl rfl) rfl (by decide) (yr_move rfl rfl) ?_
                          refine VL.c (.inl rfl) rfl (by decide) (yc_callf rfl known35_Dz (.cons rfl (.cons rfl .nil)) (by apply Pick.one; repeat (first | exact Rem.here | apply Rem.there | apply Rem.thereS)) (c_pickG (m := 4) hA hb hl (by (try dsimp only); omega) (by (try dsimp only); omega) (by (try dsimp only); omega) (by (try dsimp only); omega))) ?_
                          rintro ⟨⟨x146, n146, s146⟩, hx146, hs146, hn146, hm146⟩
                          dsimp only at hx146 hs146 hn146 hm146
                          refine VL.r (.inl rfl) rfl (by decide) (yr_addN (2 + x146) rfl rfl rfl (by push_cast; rfl) (by omega)) ?_
                          refine VL.q (.inl rfl) rfl (by decide) (yq_callf rfl known41_Dz (.cons rfl .nil) (fun w hw => (c_dec (by (try dsimp only); omega)))) ?_
                          refine VL.r (.inl rfl) rfl (by decide) (yr_catT rfl rfl rfl (show tx ⟨#[105, 114, 111, 110, 32]⟩ 5 from ⟨by decide, by decide⟩) (tx_dec (by (try dsimp only); omega)) (by first | omega | (simp only [List.length_cons, List.length_nil]; omega) | (have h1 := hd126.m2; have h2 := hd126.wl; have h3 := hd126.gl; omega) | (simp only [List.length_take]; omega))) ?_
                          refine VL.r (.inl rfl) rfl (by decide) (yr_catT rfl rfl rfl (tx_app (show tx ⟨#[105, 114, 111, 110, 32]⟩ 5 from ⟨by decide, by decide⟩) (tx_dec (by (try dsimp only); omega))) (show tx ⟨#[32]⟩ 1 from ⟨by decide, by decide⟩) (by first | omega | (simp only [List.length_cons, List.length_nil]; omega) | (have h1 := hd126.m2; have h2 := hd126.wl; have h3 := hd126.gl; omega) | (simp only [List.length_take]; omega))) ?_
                          refine VL.r (.inl rfl) rfl (by decide) (yr_move rfl rfl) ?_
                          refine VL.r (.inl rfl) rfl (by decide) (yr_catT rfl rfl rfl (tx_app (tx_app (show tx ⟨#[105, 114, 111, 110, 32]⟩ 5 from ⟨by decide, by decide⟩) (tx_dec (by (try dsimp only); omega))) (show tx ⟨#[32]⟩ 1 from ⟨by decide, by decide⟩)) hs28 (by first | omega | (simp only [List.length_cons, List.length_nil]; omega) | (have h1 := hd126.m2; have h2 := hd126.wl; have h3 := hd126.gl; omega) | (simp only [List.length_take]; omega))) ?_
                          refine VL.r (.inl rfl) rfl (by decide) (yr_catT rfl rfl rfl (tx_app (tx_app (tx_app (show tx ⟨#[105, 114, 111, 110, 32]⟩ 5 from ⟨by decide, by decide⟩) (tx_dec (by (try dsimp only); omega))) (show tx ⟨#[32]⟩ 1 from ⟨by decide, by decide⟩)) hs28) (show tx ⟨#[32]⟩ 1 from ⟨by decide, by decide⟩) (by first | omega | (simp only [List.length_cons, List.length_nil]; omega) | (have h1 := hd126.m2; have h2 := hd126.wl; have h3 := hd126.gl; omega) | (simp only [List.length_take]; omega))) ?_
                          refine VL.r (.inl rfl) rfl (by decide) (yr_move rfl rfl) ?_
                          refine VL.new (.inl rfl) rfl (by decide) (yn_callf rfl known64_Dz (.cons rfl .nil) (fun w hw => (c_ntext (xs := xs139) (by first | exact Sees.root (by assumption) w hw | exact Sees.own (by repeat (first | exact List.mem_cons_self | exact List.mem_append_left _ (by assumption) | apply List.mem_cons_of_mem | apply List.mem_append_right)) w hw) (by omega)))) ?_
                          rintro ⟨s155, hs155⟩
                          dsimp only
                          refine VL.r (.inl rfl) rfl (by decide) (yr_catT rfl rfl rfl (tx_app (tx_app (tx_app (tx_app (show tx ⟨#[105, 114, 111, 110, 32]⟩ 5 from ⟨by decide, by decide⟩) (tx_dec (by (try dsimp only); omega))) (show tx ⟨#[32]⟩ 1 from ⟨by decide, by decide⟩)) hs28) (show tx ⟨#[32]⟩ 1 from ⟨by decide, by decide⟩)) hs155 (by first | omega | (simp only [List.length_cons, List.length_nil]; omega) | (have h1 := hd126.m2; have h2 := hd126.wl; have h3 := hd126.gl; omega) | (simp only [List.length_take]; omega))) ?_
                          refine VL.r (.inl rfl) rfl (by decide) (yr_assign rfl rfl) ?_
                          refine VL.nil ?_
                          refine VE.then_wp ?_
                          refine V.ret ?_
                          refine VE.then_ret ?_
                          refine VE.block_ret ?_
                          refine VE.then_ret ?_
                          refine ret1 rfl rfl (fun w1 hw => ?_)
                          exact ⟨⟨(⟨_, tx_mono (tx_app (tx_app (tx_app (tx_app (tx_app (show tx ⟨#[105, 114, 111, 110, 32]⟩ 5 from ⟨by decide, by decide⟩) (tx_dec (by (try dsimp only); omega))) (show tx ⟨#[32]⟩ 1 from ⟨by decide, by decide⟩)) hs28) (show tx ⟨#[32]⟩ 1 from ⟨by decide, by decide⟩)) hs155) (by first | omega | (simp only [List.length_cons, List.length_nil]; omega) | (have h1 := hd126.m2; have h2 := hd126.wl; have h3 := hd126.gl; omega) | (simp only [List.length_take]; omega))⟩, n146, s146), trivial, by assumption, by (try dsimp only); omega, by (try dsimp only); omega⟩, rfl, hw.pick (by apply Pick.app1; (· repeat (first | exact Rem.here | exact Rem.all | exact Rem.hereS | apply Rem.there | apply Rem.thereS)); apply Pick.cons1; (· repeat (first | exact Rem.here | exact Rem.all | exact Rem.hereS | apply Rem.there | apply Rem.thereS)); apply Pick.cons1; (· repeat (first | exact Rem.here | exact Rem.all | exact Rem.hereS | apply Rem.there | apply Rem.thereS)); exact Pick.nil)⟩
                      · skip
                        refine V.skip ?_
                        refine VE.then_wp ?_
                        refine V.seq ?_
                        refine V.region ?_
                        refine VL.r (.inl rfl) rfl (by decide) (yr_move rfl rfl) ?_
                        refine VL.r (.inl rfl) rfl (by decide) (yr_catT rfl rfl rfl (show tx ⟨#[115, 99, 97, 110, 32, 48, 32]⟩ 7 from ⟨by decide, by decide⟩) hs28 (by first | omega | (simp only [List.length_cons, List.length_nil]; omega) | (have h1 := hd126.m2; have h2 := hd126.wl; have h3 := hd126.gl; omega) | (simp only [List.length_take]; omega))) ?_
                        refine VL.r (.inl rfl) rfl (by decide) (yr_catT rfl rfl rfl (tx_app (show tx ⟨#[115, 99, 97, 110, 32, 48, 32]⟩ 7 from ⟨by decide, by decide⟩) hs28) (show tx ⟨#[32]⟩ 1 from ⟨by decide, by decide⟩) (by first | omega | (simp only [List.length_cons, List.length_nil]; omega) | (have h1 := hd126.m2; have h2 := hd126.wl; have h3 := hd126.gl; omega) | (simp only [List.length_take]; omega))) ?_
                        refine VL.r (.inl rfl) rfl (by decide) (yr_move rfl rfl) ?_
                        refine VL.r (.inl rfl) rfl (by decide) (yr_catT rfl rfl rfl (tx_app (tx_app (show tx ⟨#[115, 99, 97, 110, 32, 48, 32]⟩ 7 from ⟨by decide, by decide⟩) hs28) (show tx ⟨#[32]⟩ 1 from ⟨by decide, by decide⟩)) hs28 (by first | omega | (simp only [List.length_cons, List.length_nil]; omega) | (have h1 := hd126.m2; have h2 := hd126.wl; have h3 := hd126.gl; omega) | (simp only [List.length_take]; omega))) ?_
                        refine VL.r (.inl rfl) rfl (by decide) (yr_catT rfl rfl rfl (tx_app (tx_app (tx_app (show tx ⟨#[115, 99, 97, 110, 32, 48, 32]⟩ 7 from ⟨by decide, by decide⟩) hs28) (show tx ⟨#[32]⟩ 1 from ⟨by decide, by decide⟩)) hs28) (show tx ⟨#[32]⟩ 1 from ⟨by decide, by decide⟩) (by first | omega | (simp only [List.length_cons, List.length_nil]; omega) | (have h1 := hd126.m2; have h2 := hd126.wl; have h3 := hd126.gl; omega) | (simp only [List.length_take]; omega))) ?_
                        refine VL.r (.inl rfl) rfl (by decide) (yr_move rfl rfl) ?_
                        refine VL.c (.inl rfl) rfl (by decide) (yc_callf rfl known35_Dz (.cons rfl (.cons rfl .nil)) (by apply Pick.one; repeat (first | exact Rem.here | apply Rem.there | apply Rem.thereS)) (c_pickG (m := 4) hA hb hl (by (try dsimp only); omega) (by (try dsimp only); omega) (by (try dsimp only); omega) (by (try dsimp only); omega))) ?_
                        rintro ⟨⟨x164, n164, s164⟩, hx164, hs164, hn164, hm164⟩
                        dsimp only at hx164 hs164 hn164 hm164
                        refine VL.r (.inl rfl) rfl (by decide) (yr_addN (1 + x164) rfl rfl rfl (by push_cast; rfl) (by omega)) ?_
                        refine VL.q (.inl rfl) rfl (by decide) (yq_callf rfl known41_Dz (.cons rfl .nil) (fun w hw => (c_dec (by (try dsimp only); omega)))) ?_
                        refine VL.r (.inl rfl) rfl (by decide) (yr_catT rfl rfl rfl (tx_app (tx_app (tx_app (tx_app (show tx ⟨#[115, 99, 97, 110, 32, 48, 32]⟩ 7 from ⟨by decide, by decide⟩) hs28) (show tx ⟨#[32]⟩ 1 from ⟨by decide, by decide⟩)) hs28) (show tx ⟨#[32]⟩ 1 from ⟨by decide, by decide⟩)) (tx_dec (by (try dsimp only); omega)) (by first | omega | (simp only [List.length_cons, List.length_nil]; omega) | (have h1 := hd126.m2; have h2 := hd126.wl; have h3 := hd126.gl; omega) | (simp only [List.length_take]; omega))) ?_
                        refine VL.r (.inl rfl) rfl (by decide) (yr_assign rfl rfl) ?_
                        refine VL.nil ?_
                        refine VE.then_wp ?_
                        refine V.ret ?_
                        refine VE.block_ret ?_
                        refine VE.then_ret ?_
                        refine ret1 rfl rfl (fun w1 hw => ?_)
                        exact ⟨⟨(⟨_, tx_mono (tx_app (tx_app (tx_app (tx_app (tx_app (show tx ⟨#[115, 99, 97, 110, 32, 48, 32]⟩ 7 from ⟨by decide, by decide⟩) hs28) (show tx ⟨#[32]⟩ 1 from ⟨by decide, by decide⟩)) hs28) (show tx ⟨#[32]⟩ 1 from ⟨by decide, by decide⟩)) (tx_dec (by (try dsimp only); omega))) (by first | omega | (simp only [List.length_cons, List.length_nil]; omega) | (have h1 := hd126.m2; have h2 := hd126.wl; have h3 := hd126.gl; omega) | (simp only [List.length_take]; omega))⟩, n164, s164), trivial, by assumption, by (try dsimp only); omega, by (try dsimp only); omega⟩, rfl, hw.pick (by apply Pick.app1; (· repeat (first | exact Rem.here | exact Rem.all | exact Rem.hereS | apply Rem.there | apply Rem.thereS)); apply Pick.cons1; (· repeat (first | exact Rem.here | exact Rem.all | exact Rem.hereS | apply Rem.there | apply Rem.thereS)); apply Pick.cons1; (· repeat (first | exact Rem.here | exact Rem.all | exact Rem.hereS | apply Rem.there | apply Rem.thereS)); exact Pick.nil)⟩
                  · skip
                    replace h11 := ic_eql' h11
                    refine V.skip ?_
                    refine VE.block_normal ?_
                    refine VE.then_wp ?_
                    refine V.seq ?_
                    refine V.region ?_
                    refine VL.r (.inl rfl) rfl (by decide) (yr_move rfl rfl) ?_
                    refine VL.new1 (.inl rfl) rfl (by decide) (yn_lit rfl Tryd.underlying25 elt9_Dz rfl (by decide) (.cons rfl (.cons rfl (.cons rfl .nil))) (by first | (simp; done) | (simp [cn, cn1, cn0]; done)) rfl rfl rfl) ?_
                    intro b169
                    refine VL.c (.inl rfl) rfl (by decide) (yc_callf rfl known50_Dz (.cons rfl (.cons rfl .nil)) (by apply Pick.e2; all_goals (repeat (first | exact Rem.here | exact Rem.all | exact Rem.hereS | apply Rem.there | apply Rem.thereS))) (c_textD (b := some ⟨b169, 0, none⟩) (d := 3) (ss := [⟨#[119, 105, 114, 101, 115]⟩, ⟨#[112, 111, 108, 101, 115]⟩, ⟨#[101, 110, 101, 114, 103, 121]⟩]) (cap := 3 * 1) (m := 60) hA hb hl (by (try dsimp only); omega) (by (try dsimp only); omega) (txs_of (by decide +kernel)) (by decide))) ?_
                    rintro ⟨⟨⟨t170, ht170⟩, n170, s170⟩, hv170, hs170, hn170, hm170⟩
                    dsimp only at hv170 hs170 hn170 hm170
                    refine VL.r (.inl rfl) rfl (by decide) (yr_assign rfl rfl) ?_
                    refine VL.nil ?_
                    refine VE.then_wp ?_
                    refine V.ret ?_
                    refine ret1 rfl rfl (fun w1 hw => ?_)
                    exact ⟨⟨(⟨_, tx_mono ht170 (by first | omega | (simp only [List.length_cons, List.length_nil]; omega) | (have h1 := hd126.m2; have h2 := hd126.wl; have h3 := hd126.gl; omega) | (simp only [List.length_take]; omega))⟩, n170, s170), trivial, by assumption, by (try dsimp only); omega, by (try dsimp only); omega⟩, rfl, hw.pick (by apply Pick.app1; (· repeat (first | exact Rem.here | exact Rem.all | exact Rem.hereS | apply Rem.there | apply Rem.thereS)); apply Pick.cons1; (· repeat (first | exact Rem.here | exact Rem.all | exact Rem.hereS | apply Rem.there | apply Rem.thereS)); apply Pick.cons1; (· repeat (first | exact Rem.here | exact Rem.all | exact Rem.hereS | apply Rem.there | apply Rem.thereS)); exact Pick.nil)⟩

theorem c_b10Lines {w : World} {a : Option Addr} {c : Nat} {bs : List Int} {aw a2 a3 a4 a5 : Option Addr} {nw n2 n3 n4 n5 cw c2 c3 c4 c5 : Nat} (hA : Cl w a (bl bs)) (hb : Bytes bs) (hl : bs.length ≤ 2000000) (hnw : nw ≤ 2) : New Tryd.prog 19 [.slice a bs.length c, .agg #[.slice aw nw cw, .slice a2 n2 c2, .slice a3 n3 c3, .slice a4 n4 c4, .slice a5 n5 c5]] w (fun x : {x : (Option Addr × Nat) × List ByteArray // x.2.length ≤ 5 ∧ ∀ s ∈ x.2, tx s 1200} => .slice x.1.1.1 x.1.2.length x.1.1.2) (fun x => [⟨x.1.1.1, sx x.1.2, x.1.1.2 * 1, 9⟩]) := by
  refine New.enter Tryd.func19 rfl Tryd.ntmps19 (Nat.le_of_ble_eq_true rfl) ?_
  refine V.seq ?_
  refine V.region ?_
  refine VL.new1 (.inl rfl) rfl (by decide) (yn_box rfl rfl (.inr ⟨rfl, rfl⟩)) ?_
  intro b3
  refine VL.r (.inl rfl) rfl (by decide) (yr_assign (u := .slice none 0 0) rfl rfl) ?_
  refine VL.nil ?_
  refine VE.then_wp ?_
  refine V.seq ?_
  refine V.region ?_
  refine VL.r (.inl rfl) rfl (by decide) (yr_move rfl rfl) ?_
  refine VL.new1 (.inl rfl) rfl (by decide) (yn_callf rfl known34_Dz (.cons rfl .nil) (fun w hw => c_from)) ?_
  intro b9
  refine VL.r (.inl rfl) rfl (by decide) (yr_assign rfl rfl) ?_
  refine VL.nil ?_
  refine VE.then_wp ?_
  refine V.seq ?_
  refine V.region ?_
  refine VL.new1 (.inl rfl) rfl (by decide) (yn_lit rfl Tryd.underlying25 elt9_Dz rfl (by decide) .nil (by first | (simp; done) | (simp [cn, cn1, cn0]; done)) rfl rfl rfl) ?_
  intro b10
  refine VL.r (.inl rfl) rfl (by decide) (yr_assign rfl rfl) ?_
  refine VL.nil ?_
  refine VE.then_wp ?_
  refine V.seq ?_
  refine V.seq ?_
  refine V.region ?_
  refine VL.r (.inl rfl) rfl (by decide) (yr_move rfl rfl) ?_
  refine VL.c (.inl rfl) rfl (by decide) (yc_callf rfl known35_Dz (.cons rfl (.cons rfl .nil)) (by apply Pick.one; repeat (first | exact Rem.here | apply Rem.there | apply Rem.thereS)) (c_pickG (m := 6) hA hb hl (by (try dsimp only); omega) (by (try dsimp only); omega) (by (try dsimp only); omega) (by (try dsimp only); omega))) ?_
  rintro ⟨⟨x12, n12, s12⟩, hx12, hs12, hn12, hm12⟩
  dsimp only at hx12 hs12 hn12 hm12
  refine VL.r (.inl rfl) rfl (by decide) (yr_assign rfl rfl) ?_
  refine VL.nil ?_
  refine VE.then_wp ?_
  refine V.block ?_
  refine V.loopc (G := (List ByteArray) × (Option Addr) × Nat × Nat × Nat) [(3, _), (5, _)] (fun ⟨ss, ar, cr, nn, sd1⟩ => ss.length ≤ x12 ∧ (∀ s ∈ ss, tx s 1200) ∧ (nn ≤ 2 + 300 * ss.length) ∧ sd1 < 18446744073709551616) (fun ⟨ss, ar, cr, nn, sd1⟩ => [⟨ar, sx ss, cr * 1, 9⟩, ⟨some ⟨b9, 0, none⟩, [.slice a bs.length c, .int .i64 ((nn : Nat) : Int), .int .u64 ((sd1 : Nat) : Int)], 3, 87⟩, ⟨some ⟨b3, 0, none⟩, [.slice aw nw cw, .slice a2 n2 c2, .slice a3 n3 c3, .slice a4 n4 c4, .slice a5 n5 c5], 5, 43⟩]) (fun ⟨ss, ar, cr, nn, sd1⟩ => [(6, .slice ar ss.length cr), (7, .int .i64 ((x12 - ss.length : Nat) : Int))]) (fun ⟨ss, ar, cr, nn, sd1⟩ => x12 - ss.length) ([], some ⟨b10, 0, none⟩, 0, n12, s12) (.cons rfl (.cons rfl .nil)) (.cons rfl (.cons rfl .nil)) ?_ ?_ ?_
  · exact (fun w hw => hw.pick (by apply Pick.cons1; (· repeat (first | exact Rem.here | exact Rem.all | exact Rem.hereS | apply Rem.there | apply Rem.thereS)); apply Pick.cons1; (· repeat (first | exact Rem.here | exact Rem.all | exact Rem.hereS | apply Rem.there | apply Rem.thereS)); apply Pick.cons1; (· repeat (first | exact Rem.here | exact Rem.all | exact Rem.hereS | apply Rem.there | apply Rem.thereS)); exact Pick.nil))
  · exact (by exact ⟨Nat.zero_le _, fun s h => (by cases h), by (try dsimp only); simp only [List.length_nil]; omega, hs12⟩)
  rintro ⟨ss, ar, cr, nn, sd1⟩ ⟨hl9, ht9, hn9, hd9⟩
  show V _ _ _ [⟨ar, sx ss, cr * 1, 9⟩, ⟨some ⟨b9, 0, none⟩, [.slice a bs.length c, .int .i64 ((nn : Nat) : Int), .int .u64 ((sd1 : Nat) : Int)], 3, 87⟩, ⟨some ⟨b3, 0, none⟩, [.slice aw nw cw, .slice a2 n2 c2, .slice a3 n3 c3, .slice a4 n4 c4, .slice a5 n5 c5], 5, 43⟩] ([(6, .slice ar ss.length cr), (7, .int .i64 ((x12 - ss.length : Nat) : Int))] ++ [(3, _), (5, _)]) _ _
  refine V.seq ?_
  refine V.seq ?_
  refine V.region ?_
  refine VL.r (.inl rfl) rfl (by decide) (yr_move rfl rfl) ?_
  refine VL.r (.inl rfl) rfl (by decide) (yr_icmp rfl (.inr (.inr (.inr (.inr (.inl rfl))))) rfl rfl) ?_
  refine VL.nil ?_
  refine VE.then_wp ?_
  refine V.cond rfl (fun h1 => ?_) (fun h1 => ?_)
  · skip
    replace h1 := ic_gtr h1
    refine V.skip ?_
    refine VE.then_wp ?_
    refine V.seq ?_
    refine V.block ?_
    refine V.region ?_
    refine VL.r (.inl rfl) rfl (by decide) (yr_move rfl rfl) ?_
    refine VL.r (.inl rfl) rfl (by decide) (yr_move rfl rfl) ?_
    refine VL.c (.inl rfl) rfl (by decide) (yc_callf rfl known36_Dz (.cons rfl (.cons rfl .nil)) (by apply Pick.e2; all_goals (repeat (first | exact Rem.here | exact Rem.all | exact Rem.hereS | apply Rem.there | apply Rem.thereS))) (c_dline (q2 := b3) (aw := aw) (nw := nw) (cw := cw) (ds := [.slice a2 n2 c2, .slice a3 n3 c3, .slice a4 n4 c4, .slice a5 n5 c5]) hA hb hl (by (try dsimp only); omega) (by (try dsimp only); omega) hnw)) ?_
    rintro ⟨⟨⟨t19, ht19⟩, n19, s19⟩, hv19, hs19, hn19, hm19⟩
    dsimp only at hv19 hs19 hn19 hm19
    refine VL.new1 (.inl rfl) rfl (by decide) (yn_lit rfl Tryd.underlying25 elt9_Dz rfl (by decide) (.cons rfl .nil) (by first | (simp; done) | (simp [cn, cn1, cn0]; done)) rfl rfl rfl) ?_
    intro b20
    refine VL.c (.inl rfl) rfl (by decide) (yc_appendz 1 rfl rfl Tryd.underlying25 elt9_Dz rfl rfl (by repeat (first | exact UpdF.here | apply UpdF.there | apply UpdF.thereS)) (by first | exact Sees.root (by assumption) | exact Sees.own (by repeat (first | exact List.mem_cons_self | exact List.mem_append_left _ (by assumption) | apply List.mem_cons_of_mem | apply List.mem_append_right)) | exact Sees.root (hR _ (by omega)) | exact Sees.own (RowsIn.mem (by repeat (first | exact RowsIn.here | exact RowsIn.last | apply RowsIn.there | apply RowsIn.thereS)) _ (by omega)) | exact Sees.own (WRowsIn.mem (by repeat (first | exact WRowsIn.here | exact WRowsIn.last | apply WRowsIn.there | apply WRowsIn.thereS)) _ (by omega))) rfl (by rw [sx_length, Nat.mul_one]) rfl (by first | rfl | exact sx_scal _) rfl (by omega) (by omega)) ?_
    rintro ⟨a21, c21⟩
    refine VL.r (.inl rfl) rfl (by decide) (yr_assign rfl rfl) ?_
    refine VL.nil ?_
    refine VE.block_normal ?_
    refine VE.then_wp ?_
    refine V.region ?_
    refine VL.r (.inl rfl) rfl (by decide) (yr_move rfl rfl) ?_
    refine VL.r (.inl rfl) rfl (by decide) (yr_int rfl rfl rfl (.inr (.inl ⟨rfl, wrap_in (by (try dsimp only); omega)⟩))) ?_
    refine VL.r (.inl rfl) rfl (by decide) (yr_assign rfl rfl) ?_
    refine VL.nil ?_
    refine VE.round (ss ++ [t19], a21, c21, n19, s19) ?_ ?_ ?_ ?_ ?_
    · exact (.cons (congrArg (fun n => some (Value.slice _ n _)) (by first | rfl | (rw [List.length_append]; rfl))) (.cons (congrArg (fun i => some (Value.int .i64 i)) (by rw [List.length_append]; show _ = ((x12 - (ss.length + 1) : Nat) : Int); omega)) .nil))
    · exact (.cons rfl (.cons rfl .nil))
    · exact (fun w hw => by dsimp only; rw [← sx_snoc]; exact hw.pick (by apply Pick.cons1; (· repeat (first | exact Rem.here | exact Rem.all | exact Rem.hereS | apply Rem.there | apply Rem.thereS)); apply Pick.cons1; (· repeat (first | exact Rem.here | exact Rem.all | exact Rem.hereS | apply Rem.there | apply Rem.thereS)); apply Pick.cons1; (· repeat (first | exact Rem.here | exact Rem.all | exact Rem.hereS | apply Rem.there | apply Rem.thereS)); exact Pick.nil))
    · dsimp only
      rw [List.length_append]
      exact ⟨by show ss.length + 1 ≤ x12; omega, txs_app ht9 ht19, by show n19 ≤ 2 + 300 * (ss.length + 1); omega, hs19⟩
    · dsimp only; rw [List.length_append]; show x12 - (ss.length + 1) < x12 - ss.length; omega
  · skip
    replace h1 := ic_gtr' h1
    refine V.exit ?_
    refine VE.then_exit ?_
    refine VE.then_exit ?_
    refine VE.block_here ?_
    refine VE.then_wp ?_
    refine V.seq ?_
    refine V.region ?_
    refine VL.r (.inl rfl) rfl (by decide) (yr_move rfl rfl) ?_
    refine VL.r (.inl rfl) rfl (by decide) (yr_assign rfl rfl) ?_
    refine VL.nil ?_
    refine VE.then_wp ?_
    refine V.ret ?_
    refine ret1 rfl rfl (fun w1 hw => ?_)
    exact ⟨⟨((ar, cr), ss), by show ss.length ≤ 5; omega, ht9⟩, rfl, (hw.pick (by apply Pick.cons1; (· repeat (first | exact Rem.here | exact Rem.all | exact Rem.hereS | apply Rem.there | apply Rem.thereS)); exact Pick.nil)).outs (List.Sublist.refl _)⟩

theorem c_b10Desk {w : World} {a : Option Addr} {c : Nat} {bs : List Int} (hA : Cl w a (bl bs)) (hb : Bytes bs) (hl : bs.length ≤ 2000000) : New Tryd.prog 20 [.slice a bs.length c] w (fun x : {x : (Option Addr × Nat × Nat) × (Option Addr × Nat × Nat) × (Option Addr × Nat × Nat) × (Option Addr × Nat × Nat) × (Option Addr × Nat × Nat) // x.1.2.1 ≤ 2} => .agg #[.slice x.1.1.1 x.1.1.2.1 x.1.1.2.2, .slice x.1.2.1.1 x.1.2.1.2.1 x.1.2.1.2.2, .slice x.1.2.2.1.1 x.1.2.2.1.2.1 x.1.2.2.1.2.2, .slice x.1.2.2.2.1.1 x.1.2.2.2.1.2.1 x.1.2.2.2.1.2.2, .slice x.1.2.2.2.2.1 x.1.2.2.2.2.2.1 x.1.2.2.2.2.2.2]) (fun _ => []) := by
  refine New.enter Tryd.func20 rfl Tryd.ntmps20 (Nat.le_of_ble_eq_true rfl) ?_
  refine V.seq ?_
  refine V.region ?_
  refine VL.new1 (.inl rfl) rfl (by decide) (yn_alloc rfl zero43_Dz rfl) ?_
  intro b2
  refine VL.nil ?_
  refine VE.then_wp ?_
  refine V.seq ?_
  refine V.region ?_
  refine VL.r (.inl rfl) rfl (by decide) (yr_move rfl rfl) ?_
  refine VL.new1 (.inl rfl) rfl (by decide) (yn_callf rfl known34_Dz (.cons rfl .nil) (fun w hw => c_from)) ?_
  intro b5
  refine VL.r (.inl rfl) rfl (by decide) (yr_assign rfl rfl) ?_
  refine VL.nil ?_
  refine VE.then_wp ?_
  refine V.seq ?_
  refine V.region ?_
  refine VL.r (.inl rfl) rfl (by decide) (yr_move rfl rfl) ?_
  refine VL.c (.inl rfl) rfl (by decide) (yc_callf rfl known37_Dz (.cons rfl .nil) (by apply Pick.one; repeat (first | exact Rem.here | apply Rem.there | apply Rem.thereS)) (c_ddesk (n := 0) (sd := 0) hA hb hl (by decide) (by decide))) ?_
  rintro ⟨⟨⟨⟨a7, l7, c7⟩, ⟨d7, e7, f7⟩, ⟨g7, h7, i7⟩, ⟨j7, k7, o7⟩, p7, q7, r7⟩, n7, s7⟩, hv7, hs7, hn7, hm7⟩
  dsimp only at hv7 hs7 hn7 hm7
  refine VL.s (.inl rfl) rfl (yc_store rfl sz43_Dz rfl rfl (by repeat (first | exact UpdF.here | apply UpdF.there | apply UpdF.thereS)) (.inr ⟨rfl, rfl⟩) rfl (by first | exact Nat.le_of_ble_eq_true rfl | simp) (by decide) rfl) ?_
  rintro ⟨⟩
  refine VL.nil ?_
  refine VE.then_wp ?_
  refine V.ret ?_
  refine retC rfl (rv_cellS rfl Tryd.underlying43 sz43_Dz (by first | exact Sees.root (by assumption) | exact Sees.own (by repeat (first | exact List.mem_cons_self | exact List.mem_append_left _ (by assumption) | apply List.mem_cons_of_mem | apply List.mem_append_right)) | exact Sees.root (hR _ (by omega)) | exact Sees.own (RowsIn.mem (by repeat (first | exact RowsIn.here | exact RowsIn.last | apply RowsIn.there | apply RowsIn.thereS)) _ (by omega)) | exact Sees.own (WRowsIn.mem (by repeat (first | exact WRowsIn.here | exact WRowsIn.last | apply WRowsIn.there | apply WRowsIn.thereS)) _ (by omega))) rfl rfl rfl) (by nofun) (fun w1 hw => ?_)
  exact ⟨⟨((a7, l7, c7), (d7, e7, f7), (g7, h7, i7), (j7, k7, o7), (p7, q7, r7)), hv7⟩, rfl, hw.below, (fun _ h => by cases h), List.Pairwise.nil⟩

end Go.Proofs.YtmecikeaogjmpaaDoor


namespace Go.Proofs.YtmecikeaogjmpaaDoor
open Go.RowKit
set_option linter.unusedVariables false
set_option linter.unusedSimpArgs false
set_option maxRecDepth 20000

attribute [local irreducible] mt dN chkK chk numT txt fnd good go recO recN rO rN rB scmp List.getD stb dec szS hasNL jR jOk

end Go.Proofs.YtmecikeaogjmpaaDoor


namespace Go.Proofs.YtmecikeaogjmpaaDoor
open Go.RowKit
section
variable {P : Program} {n : Nat} {w0 : World} {O : List Ent} {E : Env} {Q : Exit → Act → World → Prop} {ops : Array Oper} {o : Oper} {rest : List Oper} {d : Nat}
theorem VL.any {X : Type} {u : X → Value} {R : X → World → Prop} (hg : Wants ops E o) (hd : o.dst = some d) (hdn : d < n) (hy : ∀ ρ w, Ev E o.op ρ → Hp w0 O w → ResOk P (fun v w' => ∃ x, cn v = u x ∧ R x w') ((execOp ρ o).run P w))
    (h : ∀ x w', R x w' → VL P n w' [] ((d, u x) :: E) ops Q rest) : VL P n w0 O E ops Q (o :: rest) := by
  intro a w ha hw
  refine wpList_step fun K hK => ?_
  rw [if_pos (hg.wanted ha)]
  unfold Oper.wp
  refine (hy a.eval w (ha.ev _) hw).upon fun v w' ⟨x, h1, h2⟩ => hK _ _ ?_
  exact h x w' h2 _ _ (by rw [hd]; exact ha.put hdn h1) (Hp.refl w')
theorem ya_call {args : Array Operand} {ts : Array TypeId} {f : FuncId} {us : List Value} {X : Type} {u : X → Value} {R : X → World → Prop} (ho : o.op = .call ⟨.value (.func f), args, ts⟩) (hk : Known P f) (hx : Opds E args.toList us)
    (h : ∀ w, Hp w0 O w → ∀ vs : Array Value, vs.toList.map cn = us → Calls P f vs w (fun e w' => ∃ v, e = .returned v ∧ ∃ x, cn v = u x ∧ R x w')) :
    ∀ ρ w, Ev E o.op ρ → Hp w0 O w → ResOk P (fun v w' => ∃ x, cn v = u x ∧ R x w') ((execOp ρ o).run P w) := by
  intro ρ w hE hw
  rw [run_call ho hk rfl hE]
  exact h w hw _ (args_map' ho hx hE)
theorem ya_alloc {e : TypeId} {z : Value} (ho : o.op = .alloc e) (hz : (P.info? e).bind (·.zero) = some z) :
    ∀ ρ w, Ev E o.op ρ → Hp w0 O w → ResOk P (fun v w' => ∃ b : Nat, cn v = .pointer (some (adr (some ⟨b, 0, none⟩) 0)) ∧ (w0.heap.size ≤ b ∧ Below w0.heap.size w0 w' ∧ w'.heap[b]? = some (.cells z.cells.toList.toArray e (0, 0)))) ((execOp ρ o).run P w) := by
  intro ρ w hE hw
  have hr : (execOp ρ o).run P w = .ok (.value (.pointer (some ⟨w.heap.size, 0, none⟩))) (w.alloc (.cells z.cells.toList.toArray e)) := by
    simp [execOp, ho, Instr.alloc, newVar, run_newRow, info_zero hz]
  rw [hr]
  exact ⟨w.heap.size, by simp [cn, cn1, cn0, adr], hw.below.size, (hw.below.trans ((below_alloc _ _ _).mono hw.below.size)), by show (w.heap.push _)[w.heap.size]? = _; simp⟩
theorem V.loopW {G : Type} {body : Code} (I : G → World → Prop) (Ev' : G → Env) (Ec : Env) (μ : G → Nat) (g0 : G)
    (hE : ∀ t u, Env.get (Ev' g0 ++ Ec) t = some u → E.get t = some u) (h0 : ∀ w, Hp w0 O w → I g0 w)
    (round : ∀ g w, I g w → V P n w [] (Ev' g ++ Ec) body (Exit.then (fun a w => ∃ g', I g' w ∧ Models n (Ev' g' ++ Ec) a ∧ μ g' < μ g) Q)) :
    V P n w0 O E (.loop body) Q := by
  intro a w ha hw
  intro b k cs
  have key : ∀ m (g : G), μ g = m → ∀ a w, I g w → Models n (Ev' g ++ Ec) a →
      ∃ e a' w', Q e a' w' ∧ Arrives P (lone (b.at a (.code body :: .inLoop body :: k)) cs w) b k cs e a' w' := by
    intro m
    induction m using Nat.strongRecOn with
    | _ m ih =>
      intro g hm a w hg ha
      obtain ⟨e, a₁, w₁, hq, harr⟩ := round g w hg a w ha (Hp.refl w) b (.inLoop body :: k) cs
      cases e with
      | normal =>
        obtain ⟨g', hg', ha', hlt⟩ := hq
        obtain ⟨e₂, a₂, w₂, hq₂, harr₂⟩ := ih (μ g') (hm ▸ hlt) g' rfl a₁ w₁ hg' ha'
        exact ⟨e₂, a₂, w₂, hq₂, .of_steps (Steps.trans harr (.one step_inLoop)) harr₂⟩
      | exit id => exact ⟨_, a₁, w₁, hq, .pass (x := .inLoop body) rfl (fun _ _ => .inl (by simp)) harr⟩
      | goto l => exact ⟨_, a₁, w₁, hq, .pass (x := .inLoop body) rfl (fun _ _ => .inl (by simp)) harr⟩
      | ret => exact ⟨_, a₁, w₁, hq, .pass (x := .inLoop body) rfl (fun _ _ => .inl (by simp)) harr⟩
      | panic ch => exact ⟨_, a₁, w₁, hq, .pass (x := .inLoop body) rfl (fun _ _ => .inl (by simp)) harr⟩
      | outgrown => exact ⟨_, a₁, w₁, hq, .pass (x := .inLoop body) rfl (fun _ _ => .inl (by simp)) harr⟩
  obtain ⟨e, a', w', hq, harr⟩ := key (μ g0) g0 rfl a w (h0 w hw) (ha.mono hE)
  exact ⟨e, a', w', hq, .of_steps (.one step_loop) harr⟩
theorem VL.anyS {X : Type} {u : X → Value} {R : X → World → Prop} (hg : Wants ops E o) (hd : o.dst = none) (hy : ∀ ρ w, Ev E o.op ρ → Hp w0 O w → ResOk P (fun v w' => ∃ x, cn v = u x ∧ R x w') ((execOp ρ o).run P w))
    (h : ∀ x w', R x w' → VL P n w' [] E ops Q rest) : VL P n w0 O E ops Q (o :: rest) := by
  intro a w ha hw
  refine wpList_step fun K hK => ?_
  rw [if_pos (hg.wanted ha)]
  unfold Oper.wp
  refine (hy a.eval w (ha.ev _) hw).upon fun v w' ⟨x, h1, h2⟩ => hK _ _ ?_
  exact h x w' h2 _ _ (by rw [hd]; exact ha) (Hp.refl w')
def RoundW {G : Type} (n : Nat) (Ec : Env) (I : G → World → Prop) (Ev' : G → Env) (μ : G → Nat) (g : G) : Act → World → Prop :=
  fun a w => ∃ g', I g' w ∧ Models n (Ev' g' ++ Ec) a ∧ μ g' < μ g
theorem V.loopV {G : Type} {body : Code} (Ec : Env) (I : G → World → Prop) (Ev' : G → Env) (μ : G → Nat) (g0 : G)
    (hc : Cov E Ec) (hE : Cov E (Ev' g0)) (h0 : ∀ w, Hp w0 O w → I g0 w)
    (round : ∀ g w, I g w → V P n w [] (Ev' g ++ Ec) body (Exit.then (RoundW n Ec I Ev' μ g) Q)) :
    V P n w0 O E (.loop body) Q := V.loopW I Ev' Ec μ g0 (hE.append hc).get h0 round
theorem VE.roundW {G : Type} {Ec : Env} {I : G → World → Prop} {Ev' : G → Env} {μ : G → Nat} {g : G} (g' : G)
    (hE : Cov E (Ev' g')) (hc : Cov E Ec) (hI : ∀ w, Hp w0 O w → I g' w) (hμ : μ g' < μ g) :
    VE n w0 O E (Exit.then (RoundW n Ec I Ev' μ g) Q) .normal :=
  fun _ w ha hw => ⟨g', hI w hw, ha.mono (hE.append hc).get, hμ⟩
theorem heap_set {w : World} {b i : Nat} {c : Array Value} {T : TypeId} {z : Nat × Nat} (h : w.heap[b]? = some (.cells c T z)) (v : Value) : (w.setCell ⟨b, i, none⟩ v).heap[b]? = some (.cells (c.setIfInBounds i v) T z) := by
  simp [World.setCell, Array.getElem?_modify, h]
theorem cn0_ptr {u : Value} (h : cn0 u = .pointer none) : u = .pointer none := by
  cases u <;> simp [cn0] at h ⊢ <;> exact h
theorem cn0_sli {u : Value} (h : cn0 u = .slice none 0 0) : u = .slice none 0 0 := by
  cases u <;> simp [cn0] at h ⊢ <;> exact h
theorem ya_store2 {t T : TypeId} {x y : Operand} {b : Nat} (ho : o.op = .store t x y) (hz : (P.info? t).map (·.size) = some 2) (hx : E.opd x = some (.pointer (some (adr (some ⟨b, 0, none⟩) 0)))) (hy : E.opd y = some (.agg #[.pointer none, .slice none 0 0]))
    (hb : w0.heap[b]? = some (.cells #[.pointer none, .slice none 0 0] T (0, 0))) :
    ∀ ρ w, Ev E o.op ρ → Hp w0 O w → ResOk P (fun v w' => ∃ _x : Unit, cn v = undef ∧ (w'.heap[b]? = some (.cells #[.pointer none, .slice none 0 0] T (0, 0)) ∧ Below b w0 w')) ((execOp ρ o).run P w) := by
  intro ρ w hE hw
  have e1 := cn_pointer (hE.get (x := x) (by simp [ho, Op.operands]) hx)
  have e2 := hE.get (x := y) (by simp [ho, Op.operands]) hy
  obtain ⟨ws, h1, h2⟩ := cn_agg e2
  have hlt : b < w0.heap.size := by
    rcases Nat.lt_or_ge b w0.heap.size with h' | h'
    · exact h'
    · rw [Array.getElem?_eq_none h'] at hb; cases hb
  have hbw : w.heap[b]? = some (.cells #[.pointer none, .slice none 0 0] T (0, 0)) := by rw [hw.below.block b hlt]; exact hb
  have h3 : ws = #[.pointer none, .slice none 0 0] := by
    obtain ⟨l⟩ := ws
    match l, h2 with
    | [], h2 => simp at h2
    | [_], h2 => simp at h2
    | [u, v], h2 =>
      simp at h2
      rw [cn0_ptr h2.1, cn0_sli h2.2]
    | _ :: _ :: _ :: _, h2 => simp at h2
  subst h3
  have q0 := run_store_scal (P := P) (w := w) (a := ⟨b, 0, none⟩) (v := .pointer none) (v0 := .pointer none) rfl (by simp [World.cell?, hbw]) (by simp [World.frozen?, hbw])
  have hb1 := heap_set (i := 0) hbw (.pointer none)
  have q1 := run_store_scal (P := P) (w := w.setCell ⟨b, 0, none⟩ (.pointer none)) (a := ⟨b, 1, none⟩) (v := .slice none 0 0) (v0 := .slice none 0 0) rfl (by simp [World.cell?, hb1]) (by simp [World.frozen?, hb1])
  have hb2 := heap_set (i := 1) hb1 (.slice none 0 0)
  have hr : (execOp ρ o).run P w = .ok .skip ((w.setCell ⟨b, 0, none⟩ (.pointer none)).setCell ⟨b, 1, none⟩ (.slice none 0 0)) := by
    simp only [execOp, ho, Instr.storeAt, Instr.sureAddr, e1, storeVar, Sem.run_bind, Sem.run_pure, Result.andThen_ok, info_size hz, h1]
    simp [Value.cells, storeCells, adr, Addr.add, q0, q1]
  rw [hr]
  refine ⟨(), by simp [undef, cn], by simpa using hb2, ?_⟩
  exact ((hw.below.mono (Nat.le_of_lt hlt)).setCell (p := ⟨b, 0, none⟩) (Nat.le_refl _) _).setCell (p := ⟨b, 1, none⟩) (Nat.le_refl _) _
end
/-! ### a builder -/
theorem isB_new {T e : TypeId} {B b : Nat} {w : World} (h : w.heap[b]? = some (.cells #[.pointer none, .slice none 0 0] T (0, 0))) (hB : B ≤ b) : Lib.IsBuilder T e B b [] w :=
  .inl ⟨hB, .slice none 0 0, h, ⟨rfl, .inl ⟨rfl, rfl⟩⟩, by simp [Value.ownBlock]⟩
theorem old_same {w w' : World} {k : Nat} {o : Obj} (hb : Below w.heap.size w w') (h : w.heap[k]? = some o) : w'.heap[k]? = some o := by
  have hlt : k < w.heap.size := by
    rcases Nat.lt_or_ge k w.heap.size with h' | h'
    · exact h'
    · rw [Array.getElem?_eq_none h'] at h; cases h
  rw [hb.block k hlt]; exact h
theorem isBAt_keep {T e : TypeId} {B b : Nat} {p : Value} {bs : List Value} {w w' : World} (h : Lib.BuilderAt T e B b p bs w) (hb : Below w.heap.size w w') : Lib.BuilderAt T e B b p bs w' := by
  obtain ⟨h1, v, h2, ⟨h3, h4⟩, h5⟩ := h
  refine ⟨h1, v, old_same hb h2, ⟨h3, ?_⟩, h5⟩
  rcases h4 with h4 | ⟨g, cap, cur, f1, f2, f3, f4⟩
  · exact .inl h4
  · exact .inr ⟨g, cap, cur, f1, f2, old_same hb f3, f4⟩
theorem isB_keep {T e : TypeId} {B b : Nat} {bs : List Value} {w w' : World} (h : Lib.IsBuilder T e B b bs w) (hb : Below w.heap.size w w') : Lib.IsBuilder T e B b bs w' :=
  h.elim (fun h => .inl (isBAt_keep h hb)) (fun h => .inr (isBAt_keep h hb))
end Go.Proofs.YtmecikeaogjmpaaDoor


namespace Go.Proofs.YtmecikeaogjmpaaDoor
open Go.Shelf
def ren166 : Go.Shelf.Ren := ⟨fun | 166 => 27 | 240 => 44 | 276 => 67 | n => n, fun | 0 => 0 | 1 => 1 | 2 => 2 | 3 => 3 | 4 => 4 | 5 => 5 | 6 => 6 | 7 => 7 | 8 => 8 | 9 => 9 | 10 => 10 | 11 => 11 | 12 => 12 | 13 => 13 | 14 => 14 | 15 => 15 | 16 => 16 | 17 => 17 | 18 => 18 | 19 => 19 | 20 => 20 | 21 => 21 | 22 => 54 | 24 => 27 | 27 => 78 | 31 => 25 | 37 => 34 | 38 => 35 | 46 => 121 | 47 => 150 | 51 => 133 | 52 => 154 | 53 => 85 | 54 => 129 | 55 => 82 | 59 => 83 | 60 => 84 | 61 => 76 | 70 => 51 | 71 => 52 | 72 => 53 | 74 => 57 | 75 => 58 | 76 => 59 | 77 => 60 | 80 => 63 | 81 => 62 | 83 => 68 | 84 => 80 | 101 => 30 | 102 => 29 | 103 => 141 | 104 => 24 | 105 => 142 | 106 => 143 | 111 => 149 | 113 => 118 | 114 => 127 | 119 => 159 | 127 => 81 | 137 => 160 | 138 => 161 | 139 => 162 | 146 => 144 | 150 => 126 | 151 => 145 | 164 => 119 | 165 => 120 | 171 => 128 | 172 => 130 | 173 => 131 | 174 => 132 | n => n, fun | n => n⟩
theorem lays166 : Go.Proofs.Lays.n166 Tryd.prog ren166 := {
  mixed := by kernel_rfl
  f166 := Tryd.func27.trans (congrArg some (by kernel_rfl))
  f240 := Tryd.func44.trans (congrArg some (by kernel_rfl))
  f276 := Tryd.func67.trans (congrArg some (by kernel_rfl))
  t0 := Tryd.underlying0
  a0 := Tryd.isAgg0
  z0 := Tryd.sizeOf0
  v0 := Tryd.zeroValue0
  t3 := Tryd.underlying3
  a3 := Tryd.isAgg3
  z3 := Tryd.sizeOf3
  v3 := Tryd.zeroValue3
  t4 := Tryd.underlying4
  a4 := Tryd.isAgg4
  z4 := Tryd.sizeOf4
  v4 := Tryd.zeroValue4
  t9 := Tryd.underlying9
  a9 := Tryd.isAgg9
  z9 := Tryd.sizeOf9
  v9 := Tryd.zeroValue9
  t20 := Tryd.underlying20
  a20 := Tryd.isAgg20
  z20 := Tryd.sizeOf20
  v20 := Tryd.zeroValue20
  t37 := Tryd.underlying34
  a37 := Tryd.isAgg34
  z37 := Tryd.sizeOf34
  v37 := Tryd.zeroValue34
  t70 := Tryd.underlying51
  a70 := Tryd.isAgg51
  z70 := Tryd.sizeOf51
  v70 := Tryd.zeroValue51
  t72 := Tryd.underlying53
  a72 := Tryd.isAgg53
  z72 := Tryd.sizeOf53
  v72 := Tryd.zeroValue53
  t75 := Tryd.underlying58
  a75 := Tryd.isAgg58
  z75 := Tryd.sizeOf58
  v75 := Tryd.zeroValue58
  t164 := Tryd.underlying119
  a164 := Tryd.isAgg119
  z164 := Tryd.sizeOf119
  v164 := Tryd.zeroValue119 }
theorem extra166 : Builder.Extra Tryd.prog ren166 := {
  sizeBuilder := by kernel_rfl
  liesBuilder := by kernel_rfl
  t5 := Tryd.underlying5
  a5 := Tryd.isAgg5
  z5 := Tryd.sizeOf5
  v5 := Tryd.zeroValue5
  infoByte := by kernel_rfl
  cellsByte := by kernel_rfl
  sizeByte := by kernel_rfl
  neB5 := by decide }
open Go.RowKit in
theorem wrStr (B b : Nat) (bs : List Value) (s : ByteArray) (w : World) (h : Lib.IsBuilder 53 5 B b bs w) (hlen : bs.length + s.size ≤ 140737488355328) (hBw : B ≤ w.heap.size) :
    Calls Tryd.prog 27 #[.pointer (some ⟨b, 0, none⟩), .string s] w fun e w' => e = .returned (.tuple #[.int .i64 s.size, .nilIface]) ∧ (Lib.BuilderAt 53 5 B b (.pointer (some ⟨b, 0, none⟩)) (bs ++ Lib.strCells s) w' ∧ Below B w w') := Any.Builder_WriteString lays166 extra166 B b bs s w h hlen hBw
end Go.Proofs.YtmecikeaogjmpaaDoor


namespace Go.Proofs.YtmecikeaogjmpaaDoor
open Go.RowKit
set_option linter.unusedVariables false
set_option linter.unusedSimpArgs false
set_option maxRecDepth 20000

theorem lay53_Ji : Lay Tryd.prog 53 [Value.pointer none, Value.slice none 0 0] [(0, 1), (1, 1)] := Lay.mk' (by kernel_rfl) (by kernel_rfl)
theorem zero53_Ji : (Tryd.prog.info? 53).bind (·.zero) = some (Value.agg #[Value.pointer none, Value.slice none 0 0]) := by kernel_rfl
theorem sz53_Ji : (Tryd.prog.info? 53).map (·.size) = some 2 := by kernel_rfl
theorem sz9_Ji : (Tryd.prog.info? 9).map (·.size) = some 1 := by kernel_rfl
theorem fb9_Ji : flatB Tryd.prog 9 = true := by kernel_rfl
theorem known25_Ji : Known Tryd.prog 25 := Known.mk' Tryd.func25 (by kernel_rfl)
theorem known26_Ji : Known Tryd.prog 26 := Known.mk' Tryd.func26 (by kernel_rfl)
theorem known28_Ji : Known Tryd.prog 28 := Known.mk' Tryd.func28 (by kernel_rfl)
theorem known27_Ji : Known Tryd.prog 27 := Known.mk' Tryd.func27 (by kernel_rfl)
theorem known29_Ji : Known Tryd.prog 29 := Known.mk' Tryd.func29 (by kernel_rfl)
theorem known30_Ji : Known Tryd.prog 30 := Known.mk' Tryd.func30 (by kernel_rfl)
theorem c_contains {w : World} {s : ByteArray} : Pure Tryd.prog 25 [.string s, .string ⟨#[10]⟩] w (.bool (hasNL s)) := by
  intro vs hv
  obtain rfl := str_args2 hv
  refine (Tryd.strings_Contains_one s 10 w).mono ?_
  rintro e w' ⟨rfl, rfl⟩
  exact ⟨_, rfl, rfl, Below.refl _ _⟩
theorem ptr_str2 {vs : Array Value} {p : Option Addr} {b : ByteArray} (h : vs.toList.map cn = [.pointer p, .string b]) : vs = #[.pointer p, .string b] := by
  obtain ⟨l⟩ := vs
  match l, h with
  | [], h => simp at h
  | [_], h => simp at h
  | [x, y], h =>
    simp only [List.map_cons, List.map_nil, List.cons.injEq, and_true] at h
    rw [cn_pointer h.1, cn_string h.2]
  | _ :: _ :: _ :: _, h => simp at h
theorem ptr_1 {vs : Array Value} {p : Option Addr} (h : vs.toList.map cn = [.pointer p]) : vs = #[.pointer p] := by
  obtain ⟨l⟩ := vs
  match l, h with
  | [], h => simp at h
  | [x], h =>
    simp only [List.map_cons, List.map_nil, List.cons.injEq, and_true] at h
    rw [cn_pointer h]
  | _ :: _ :: _, h => simp at h
theorem cells_app (t s : ByteArray) : Go.Lib.byteCells t.data.toList ++ Go.Lib.strCells s = Go.Lib.byteCells (t ++ s).data.toList := by
  unfold Go.Lib.byteCells Go.Lib.strCells
  rw [← List.map_append]
  congr 1
theorem cells_len (t : ByteArray) : (Go.Lib.byteCells t.data.toList).length = t.size := by
  unfold Go.Lib.byteCells
  rw [List.length_map]
  rfl
theorem wr_go {w6 w7 : World} {B b : Nat} {t s : ByteArray} (h : Go.Lib.IsBuilder 53 5 B b (Go.Lib.byteCells t.data.toList) w7) (hl : t.size + s.size ≤ 140737488355328) (hB : B ≤ w7.heap.size) (h67 : Below B w6 w7) {vs : Array Value}
    (hv : vs.toList.map cn = [.pointer (some (adr (some ⟨b, 0, none⟩) 0)), .string s]) :
    Calls Tryd.prog 27 vs w7 (fun e w' => ∃ v, e = .returned v ∧ ∃ _x : Unit, cn v = .tuple #[.int .i64 s.size, .nilIface] ∧ (Go.Lib.IsBuilder 53 5 B b (Go.Lib.byteCells (t ++ s).data.toList) w' ∧ Below B w6 w')) := by
  obtain rfl := ptr_str2 hv
  refine (wrStr B b _ s w7 h (by rw [cells_len]; exact hl) hB).mono ?_
  rintro e w' ⟨rfl, h1, h2⟩
  exact ⟨_, rfl, (), by simp [cn, cn1, cn0], .inr (by rw [← cells_app]; exact h1), h67.trans h2⟩
theorem c_lenB {w : World} {B b : Nat} {t : ByteArray} (h : Go.Lib.IsBuilder 53 5 B b (Go.Lib.byteCells t.data.toList) w) : Pure Tryd.prog 29 [.pointer (some (adr (some ⟨b, 0, none⟩) 0))] w (.int .i64 (t.size : Int)) := by
  intro vs hv
  obtain rfl := ptr_1 hv
  refine (Tryd.Builder_Len B b _ w h).mono ?_
  rintro e w' ⟨rfl, rfl⟩
  exact ⟨_, rfl, by rw [cells_len]; rfl, Below.refl _ _⟩
theorem str_go {w6 w7 : World} {B b : Nat} {t : ByteArray} (h : Go.Lib.IsBuilder 53 5 B b (Go.Lib.byteCells t.data.toList) w7) (hB : B ≤ w7.heap.size) (h67 : Below B w6 w7) {vs : Array Value}
    (hv : vs.toList.map cn = [.pointer (some (adr (some ⟨b, 0, none⟩) 0))]) :
    Calls Tryd.prog 30 vs w7 (fun e w' => ∃ v, e = .returned v ∧ ∃ _x : Unit, cn v = .string t ∧ Below B w6 w') := by
  obtain rfl := ptr_1 hv
  refine (Tryd.Builder_String_any B b _ w7 h hB).mono ?_
  rintro e w' ⟨rfl, h2⟩
  exact ⟨_, rfl, (), rfl, h67.trans h2⟩
attribute [local irreducible] mt dN chkK chk numT txt fnd good go recO recN rO rN rB scmp List.getD stb dec szS hasNL jR jOk

theorem c_implJo {w : World} {a : Option Addr} {c : Nat} {ss : List ByteArray} {m : Int} (hA : Cl w a (sx ss)) (hM : Cl w (some ⟨0, 0, none⟩) [.int .i64 m]) (hT : Go.Lib.TabIs Tryd.prog w "internal/strconv.uint64pow10" .u64 Go.Lib.pow10Tab) (hn : ss.length ≤ 1048576) (hr : ∀ i, i < ss.length → (ss.getD i emB).size ≤ 1048576) : Pure Tryd.prog 12 [.slice a ss.length c] w (.tuple #[.string (jR ss), .bool (jOk ss)]) := by
  refine Pure.enter Tryd.func12 rfl Tryd.ntmps12 (Nat.le_of_ble_eq_true rfl) ?_
  refine V.seq ?_
  refine V.region ?_
  refine VL.r (.inl rfl) rfl (by decide) (yr_assign rfl rfl) ?_
  refine VL.r (.inl rfl) rfl (by decide) (yr_assign (u := .bool false) rfl rfl) ?_
  refine VL.nil ?_
  refine VE.then_wp ?_
  refine V.seq ?_
  refine V.region ?_
  refine VL.r (.inl rfl) rfl (by decide) (yr_build rfl lay53_Ji rfl .nil (by first | (simp; done) | (simp [vv]; done) | (simp [cn, cn1, cn0]; done)) rfl) ?_
  refine VL.any (.inl rfl) rfl (by decide) (ya_alloc rfl zero53_Ji) ?_
  rintro b4 w4 ⟨hb4, hB4, hc4⟩
  refine VL.anyS (.inl rfl) rfl (ya_store2 rfl sz53_Ji rfl rfl hc4) ?_
  rintro ⟨⟩ w5 ⟨hc5, hB5⟩
  have hB : Below w.heap.size w w5 := hB4.trans (hB5.mono hb4)
  refine VL.nil ?_
  refine VE.then_wp ?_
  refine V.seq ?_
  refine V.region ?_
  refine VL.r (.inl rfl) rfl (by decide) (yr_assign (u := .int .i64 0) rfl rfl) ?_
  refine VL.nil ?_
  refine VE.then_wp ?_
  refine V.seq ?_
  refine V.seq ?_
  refine V.region ?_
  refine VL.r (.inl rfl) rfl (by decide) (yr_move rfl rfl) ?_
  refine VL.r (.inl rfl) rfl (by decide) (yr_len rfl Tryd.underlying25 rfl) ?_
  refine VL.r (.inl rfl) rfl (by decide) (yr_move (u := .int .i64 0) rfl rfl) ?_
  refine VL.nil ?_
  refine VE.then_wp ?_
  refine V.block ?_
  refine V.loopV (G := Nat) [(4, _), (9, _), (10, _)] (fun (k : Nat) (w' : World) => Go.Lib.IsBuilder 53 5 w.heap.size b4 (Go.Lib.byteCells (jT ss k).data.toList) w' ∧ Below w.heap.size w w' ∧ k ≤ ss.length ∧ noNL ss k = true ∧ (jT ss k).size ≤ 12000) (fun (k : Nat) => [(5, .int .i64 ((jC ss k : Nat) : Int)), (11, .int .i64 (k : Int))]) (fun (k : Nat) => ss.length - k) 0 (.cons rfl (.cons rfl (.cons rfl .nil))) (.cons rfl (.cons rfl .nil)) ?_ ?_
  · exact fun w6 hw6 => ⟨isB_keep (isB_new hc5 hb4) hw6.below, hB.trans (hw6.below.mono hB.size), Nat.zero_le _, noNL_0 ss, Nat.zero_le _⟩
  rintro k w6 ⟨hI6, hB6, hk, hn6, hz6⟩
  have hp6 : Hp w [] w6 := ⟨hB6, (fun _ h => by cases h), .nil⟩
  have hA6 : Cl w6 a (sx ss) := Sees.root hA w6 hp6
  have hM6 : Cl w6 (some ⟨0, 0, none⟩) [.int .i64 m] := Sees.root hM w6 hp6
  have hT6 := tab_keep hT hB6
  have hrk := hr k
  have hjc := jC_lt ss k
  have hjl := jT_lo ss k
  show V _ _ _ _ ([(5, .int .i64 ((jC ss k : Nat) : Int)), (11, .int .i64 (k : Int))] ++ [(4, _), (9, _), (10, _)]) _ _
  refine V.seq ?_
  refine V.region ?_
  refine VL.r (.inl rfl) rfl (by decide) (yr_icmp rfl (.inr (.inr (.inl rfl))) rfl rfl) ?_
  refine VL.nil ?_
  refine VE.then_wp ?_
  refine V.seq ?_
  refine V.cond rfl (fun h1 => ?_) (fun h1 => ?_)
  · skip
    replace h1 := ic_lss h1
    have hrk2 := hrk (by omega)
    have hck := chk_lt (s := ss.getD k emB) hjc
    have hd2 := (dec_size (chk (jC ss k) (ss.getD k emB))).2
    have hd3 : (dec (chk (jC ss k) (ss.getD k emB)) ++ ⟨#[32]⟩ : ByteArray).size ≤ 70000 := by rw [app_size]; show _ + 1 ≤ _; omega
    have hd4 : (dec (chk (jC ss k) (ss.getD k emB)) ++ ⟨#[32]⟩ ++ (ss.getD k emB) : ByteArray).size ≤ 70000 + 1048576 := by rw [app_size]; omega
    have hd5 : (ln1 (chk (jC ss k) (ss.getD k emB)) (ss.getD k emB)).size ≤ 2000000 := by rw [ln1_size]; omega
    refine V.skip ?_
    refine VE.then_wp ?_
    refine V.seq ?_
    refine V.block ?_
    refine V.seq ?_
    refine V.region ?_
    refine VL.q (.inl rfl) rfl (by decide) (yq_idx (k := k) rfl Tryd.underlying25 sz9_Ji rfl rfl (by first | exact Sees.root (by assumption) | exact Sees.own (by repeat (first | exact List.mem_cons_self | exact List.mem_append_left _ (by assumption) | apply List.mem_cons_of_mem | apply List.mem_append_right)) | exact Sees.root (hR _ (by omega)) | exact Sees.own (RowsIn.mem (by repeat (first | exact RowsIn.here | exact RowsIn.last | apply RowsIn.there | apply RowsIn.thereS)) _ (by omega)) | exact Sees.own (WRowsIn.mem (by repeat (first | exact WRowsIn.here | exact WRowsIn.last | apply WRowsIn.there | apply WRowsIn.thereS)) _ (by omega))) (by first | rfl | omega | (push_cast; rfl) | (push_cast; omega) | exact tmod_nat _ _) (by first | exact sx_length _ | (rw [sx_length]; omega)) (by omega)) ?_
    refine VL.q (.inl rfl) rfl (by decide) (yq_load (u := .string (ss.getD k emB)) rfl fb9_Ji rfl (by first | exact Sees.root (by assumption) | exact Sees.own (by repeat (first | exact List.mem_cons_self | exact List.mem_append_left _ (by assumption) | apply List.mem_cons_of_mem | apply List.mem_append_right)) | exact Sees.root (hR _ (by omega)) | exact Sees.own (RowsIn.mem (by repeat (first | exact RowsIn.here | exact RowsIn.last | apply RowsIn.there | apply RowsIn.thereS)) _ (by omega)) | exact Sees.own (WRowsIn.mem (by repeat (first | exact WRowsIn.here | exact WRowsIn.last | apply WRowsIn.there | apply WRowsIn.thereS)) _ (by omega))) (sx_get (by omega))) ?_
    refine VL.r (.inl rfl) rfl (by decide) (yr_assign rfl rfl) ?_
    refine VL.nil ?_
    refine VE.then_wp ?_
    refine V.seq ?_
    refine V.seq ?_
    refine V.region ?_
    refine VL.r (.inl rfl) rfl (by decide) (yr_move rfl rfl) ?_
    refine VL.q (.inl rfl) rfl (by decide) (yq_callf rfl known25_Ji (.cons rfl (.cons rfl .nil)) (fun w hw => c_contains)) ?_
    refine VL.nil ?_
    refine VE.then_wp ?_
    refine V.cond rfl (fun h2 => ?_) (fun h2 => ?_)
    · skip
      refine V.seq ?_
      refine V.region ?_
      refine VL.r (.inl rfl) rfl (by decide) (yr_assign rfl rfl) ?_
      refine VL.r (.inl rfl) rfl (by decide) (yr_assign (u := .bool false) rfl rfl) ?_
      refine VL.nil ?_
      refine VE.then_wp ?_
      refine V.ret ?_
      refine VE.then_ret ?_
      refine VE.block_ret ?_
      refine VE.then_ret ?_
      refine VE.then_ret ?_
      refine VE.block_ret ?_
      refine VE.then_ret ?_
      refine ret2 rfl rfl rfl (by nofun) (by nofun) (fun w1 hw => ?_)
      obtain ⟨e1, e2⟩ := j_bad1 (ss := ss) (k := k) (by omega) h2
      exact ⟨by rw [e1, e2]; rfl, hB6.trans (hw.below.mono hB6.size)⟩
    · skip
      refine V.skip ?_
      refine VE.then_wp ?_
      refine V.seq ?_
      refine V.region ?_
      refine VL.r (.inl rfl) rfl (by decide) (yr_move rfl rfl) ?_
      refine VL.r (.inl rfl) rfl (by decide) (yr_move rfl rfl) ?_
      refine VL.q (.inl rfl) rfl (by decide) (yq_callf rfl known26_Ji (.cons rfl (.cons rfl .nil)) (fun w hw => (c_checkOf (by omega) (by omega)))) ?_
      refine VL.r (.inl rfl) rfl (by decide) (yr_move rfl rfl) ?_
      refine VL.r (.inl rfl) rfl (by decide) (yr_extract rfl rfl rfl (by nofun)) ?_
      refine VL.r (.inl rfl) rfl (by decide) (yr_extract rfl rfl rfl (by nofun)) ?_
      refine VL.r (.inl rfl) rfl (by decide) (yr_assign rfl rfl) ?_
      refine VL.nil ?_
      refine VE.then_wp ?_
      refine V.seq ?_
      refine V.region ?_
      refine VL.r (.inl rfl) rfl (by decide) (yr_move rfl rfl) ?_
      refine VL.q (.inl rfl) rfl (by decide) (yq_callf rfl known28_Ji (.cons rfl .nil) (fun w hw => (c_decimal (tab_keep hT6 hw.below) (by omega)))) ?_
      refine VL.r (.inl rfl) rfl (by decide) (yr_strAdd (c := dec (chk (jC ss k) (ss.getD k emB)) ++ ⟨#[32]⟩) rfl rfl rfl (cat_bd (by omega) (by first | omega | decide)) rfl) ?_
      refine VL.r (.inl rfl) rfl (by decide) (yr_move rfl rfl) ?_
      refine VL.r (.inl rfl) rfl (by decide) (yr_strAdd (c := dec (chk (jC ss k) (ss.getD k emB)) ++ ⟨#[32]⟩ ++ (ss.getD k emB)) rfl rfl rfl (cat_bd (by omega) (by first | omega | decide)) rfl) ?_
      refine VL.r (.inl rfl) rfl (by decide) (yr_strAdd (c := ln1 (chk (jC ss k) (ss.getD k emB)) (ss.getD k emB)) rfl rfl rfl (cat_bd (by omega) (by first | omega | decide)) rfl) ?_
      refine VL.any (.inl rfl) rfl (by decide) (ya_call rfl known27_Ji (.cons rfl (.cons rfl .nil)) (fun w7 hw7 vs hv => wr_go (isB_keep hI6 hw7.below) (by omega) (Nat.le_trans hB6.size hw7.below.size) (hw7.below.mono hB6.size) hv)) ?_
      rintro ⟨⟩ w8 ⟨hI8, hB68⟩
      have hB8 : Below w.heap.size w w8 := hB6.trans hB68
      replace hI8 : Go.Lib.IsBuilder 53 5 w.heap.size b4 (Go.Lib.byteCells (jT ss (k + 1)).data.toList) w8 := hI8
      refine VL.nil ?_
      refine VE.then_wp ?_
      refine V.seq ?_
      refine V.region ?_
      refine VL.q (.inl rfl) rfl (by decide) (yq_callf rfl known29_Ji (.cons rfl .nil) (fun w hw => c_lenB (isB_keep hI8 hw.below))) ?_
      refine VL.r (.inl rfl) rfl (by decide) (yr_icmp rfl (.inr (.inr (.inr (.inr (.inl rfl))))) rfl rfl) ?_
      refine VL.nil ?_
      refine VE.then_wp ?_
      refine V.cond rfl (fun h3 => ?_) (fun h3 => ?_)
      · skip
        replace h3 := ic_gtr h3
        refine V.seq ?_
        refine V.region ?_
        refine VL.r (.inl rfl) rfl (by decide) (yr_assign rfl rfl) ?_
        refine VL.r (.inl rfl) rfl (by decide) (yr_assign (u := .bool false) rfl rfl) ?_
        refine VL.nil ?_
        refine VE.then_wp ?_
        refine V.ret ?_
        refine VE.block_ret ?_
        refine VE.then_ret ?_
        refine VE.then_ret ?_
        refine VE.block_ret ?_
        refine VE.then_ret ?_
        refine ret2 rfl rfl rfl (by nofun) (by nofun) (fun w1 hw => ?_)
        obtain ⟨e1, e2⟩ := j_bad2 (ss := ss) (k := k + 1) (by omega) (by omega)
        exact ⟨by rw [e1, e2]; rfl, hB8.trans (hw.below.mono hB8.size)⟩
      · skip
        replace h3 := ic_gtr' h3
        refine V.skip ?_
        refine VE.block_normal ?_
        refine VE.then_wp ?_
        refine V.region ?_
        refine VL.r (.inl rfl) rfl (by decide) (yr_int rfl rfl rfl (.inl ⟨rfl, wrap_in (by omega)⟩)) ?_
        refine VL.r (.inl rfl) rfl (by decide) (yr_move rfl rfl) ?_
        refine VL.nil ?_
        refine VE.roundW (k + 1) ?_ ?_ ?_ ?_
        · exact (.cons rfl (.cons rfl .nil))
        · exact (.cons rfl (.cons rfl (.cons rfl .nil)))
        · exact fun w9 hw9 => ⟨isB_keep hI8 hw9.below, hB8.trans (hw9.below.mono hB8.size), by omega, noNL_y hn6 h2, by omega⟩
        · (try dsimp only); omega
  · skip
    replace h1 := ic_lss' h1
    refine V.exit ?_
    refine VE.then_exit ?_
    refine VE.then_exit ?_
    refine VE.block_here ?_
    refine VE.then_wp ?_
    refine V.seq ?_
    refine V.region ?_
    obtain rfl : k = ss.length := by omega
    refine VL.any (.inl rfl) rfl (by decide) (ya_call rfl known30_Ji (.cons rfl .nil) (fun w7 hw7 vs hv => str_go (isB_keep hI6 hw7.below) (Nat.le_trans hB6.size hw7.below.size) (hw7.below.mono hB6.size) hv)) ?_
    rintro ⟨⟩ w8 hB68
    have hB8 : Below w.heap.size w w8 := hB6.trans hB68
    refine VL.r (.inl rfl) rfl (by decide) (yr_assign rfl rfl) ?_
    refine VL.r (.inl rfl) rfl (by decide) (yr_assign (u := .bool true) rfl rfl) ?_
    refine VL.nil ?_
    refine VE.then_wp ?_
    refine V.ret ?_
    refine ret2 rfl rfl rfl (by nofun) (by nofun) (fun w1 hw => ?_)
    obtain ⟨e1, e2⟩ := j_good hn6 hz6
    exact ⟨by rw [e1, e2], hB8.trans (hw.below.mono hB8.size)⟩

end Go.Proofs.YtmecikeaogjmpaaDoor

