/- Own texts of this claim, merged: WUnB, WUnI, WUnS, WDesign, WFlat, WLine, Fine, MarkW, WMarkW, WMeshM, WUn, WRd, WSameN, RndB, Pm. -/
import Derived.KernelRfl
import Derived.Deep.Slices
import Derived.Test.YtnommdpgmoljcaaKFnPackedMeshes3
namespace Go.Proofs.Ytnommdpgmoljcaa
open Go.RowKit
set_option linter.unusedVariables false
set_option linter.unusedSimpArgs false
set_option maxRecDepth 20000

theorem mixed_UnB : Try.prog.follows .mixedOrders = true := by kernel_rfl
theorem fb9_UnB : flatB Try.prog 9 = true := by kernel_rfl
theorem fb86_UnB : flatB Try.prog 86 = true := by kernel_rfl
theorem sz23_UnB : (Try.prog.info? 23).map (·.size) = some 1 := by kernel_rfl
theorem fb23_UnB : flatB Try.prog 23 = true := by kernel_rfl
attribute [local irreducible] fop fcmp fconv fneg fabs List.getD sb rd4 rd2 q16

theorem c_unOne {w : World} {s : ByteArray} {p q1 q4 cr : Nat} {ar : Option Addr} {xs : List Nat} (hS : Cl w (some ⟨q1, 0, none⟩) [.string s]) (hL : Cl w (some ⟨q4, 0, none⟩) [.slice ar 5 cr]) (hF : Cl w ar (fl xs)) (h5 : xs.length = 5) (hp : p + 1 < s.size) (hp2 : p ≤ 100000) : New Try.prog 56 [.int .i64 (p : Int), .pointer (some (adr (some ⟨q1, 0, none⟩) 0)), .pointer (some (adr (some ⟨q4, 0, none⟩) 0))] w (fun v : {v : Nat // Nar (unX (xs.getD 4 0) (q16 (rd2 s p))) v} => .float .f32 v.1) (fun _ => []) := by
  refine New.enter Try.func56 rfl Try.ntmps56 (Nat.le_of_ble_eq_true rfl) ?_
  have hb0 := sb_lt s p
  have hb1 := sb_lt s (p + 1)
  have hr2 := rd2_lt s p
  refine V.seq ?_
  refine V.region ?_
  refine VL.r (.inl rfl) rfl (by decide) (yr_assign (u := .float .f32 0) rfl rfl) ?_
  refine VL.nil ?_
  refine VE.then_wp ?_
  refine V.seq ?_
  refine Dr.V.drawR [(0, 5), (1, 5), (2, 5), (3, 5), (4, 5), (5, 5), (6, 5), (7, 5), (8, 5), (9, 5), (10, 5), (11, 5), (12, 5)] [] [] _ mixed_UnB (by kernel_rfl) (fun w hw => hw) ?_
  refine Dr.SW.p rfl (.inl rfl) rfl (by decide) (yq_load rfl fb9_UnB rfl (by first | exact Sees.root (by assumption) | exact Sees.own (by (try simp only [List.append_assoc, List.cons_append, List.nil_append]); repeat (first | exact List.mem_cons_self | exact List.mem_append_left _ (by assumption) | apply List.mem_cons_of_mem | apply List.mem_append_right)) | exact Sees.root (hR _ (by omega)) | exact Sees.own (RowsIn.mem (by (try simp only [List.append_assoc, List.cons_append, List.nil_append]); repeat (first | exact RowsIn.here | exact RowsIn.last | apply RowsIn.there | apply RowsIn.thereS)) _ (by omega)) | exact Sees.own (WRowsIn.mem (by (try simp only [List.append_assoc, List.cons_append, List.nil_append]); repeat (first | exact WRowsIn.here | exact WRowsIn.last | apply WRowsIn.there | apply WRowsIn.thereS)) _ (by omega))) rfl) ?_
  refine Dr.SW.r rfl (.inl rfl) rfl (by decide) (yr_move rfl rfl) ?_
  refine Dr.SW.r rfl (.inl rfl) rfl (by decide) (yr_strByte (i := p) rfl Try.underlying9 rfl rfl (by first | rfl | omega | (push_cast; rfl) | (push_cast; omega)) (by omega)) ?_
  refine Dr.SW.r rfl (.inl rfl) rfl (by decide) (yr_intConv (r := (sb s p : Int)) rfl Try.underlying5 Try.underlying89 rfl (u16_nat (by omega))) ?_
  refine Dr.SW.p rfl (.inl rfl) rfl (by decide) (yq_load rfl fb9_UnB rfl (by first | exact Sees.root (by assumption) | exact Sees.own (by (try simp only [List.append_assoc, List.cons_append, List.nil_append]); repeat (first | exact List.mem_cons_self | exact List.mem_append_left _ (by assumption) | apply List.mem_cons_of_mem | apply List.mem_append_right)) | exact Sees.root (hR _ (by omega)) | exact Sees.own (RowsIn.mem (by (try simp only [List.append_assoc, List.cons_append, List.nil_append]); repeat (first | exact RowsIn.here | exact RowsIn.last | apply RowsIn.there | apply RowsIn.thereS)) _ (by omega)) | exact Sees.own (WRowsIn.mem (by (try simp only [List.append_assoc, List.cons_append, List.nil_append]); repeat (first | exact WRowsIn.here | exact WRowsIn.last | apply WRowsIn.there | apply WRowsIn.thereS)) _ (by omega))) rfl) ?_
  refine Dr.SW.r rfl (.inl rfl) rfl (by decide) (yr_move rfl rfl) ?_
  refine Dr.SW.r rfl (.inl rfl) rfl (by decide) (yr_int rfl rfl rfl (.inl ⟨rfl, wrap_in (by omega)⟩)) ?_
  refine Dr.SW.r rfl (.inl rfl) rfl (by decide) (yr_strByte (i := (p + 1)) rfl Try.underlying9 rfl rfl (by first | rfl | omega | (push_cast; rfl) | (push_cast; omega)) (by omega)) ?_
  refine Dr.SW.r rfl (.inl rfl) rfl (by decide) (yr_intConv (r := (sb s (p + 1) : Int)) rfl Try.underlying5 Try.underlying89 rfl (u16_nat (by omega))) ?_
  refine Dr.SW.r rfl (.inl rfl) rfl (by decide) (yr_shl (b := 8) (r := ((sb s (p + 1) * 2 ^ 8 : Nat) : Int)) rfl rfl rfl (shl_16 (by decide) (by omega))) ?_
  refine Dr.SW.r rfl (.inl rfl) rfl (by decide) (yr_bits (r := ((rd2 s p : Nat) : Int)) rfl rfl rfl (.inr ⟨rfl, or_16 (n := 8) (by omega) (by unfold rd2; omega) (by omega)⟩)) ?_
  refine Dr.SW.r rfl (.inl rfl) rfl (by decide) (yr_intConv (r := q16 (rd2 s p)) rfl Try.underlying89 Try.underlying88 rfl (q16_wrap (by omega))) ?_
  refine Dr.SW.r rfl (.inl rfl) rfl (by decide) (yr_assign rfl rfl) ?_
  refine Dr.SW.done ?_
  refine Dr.eqO (by simp only [List.append_nil, List.append_assoc, List.cons_append, List.nil_append] <;> rfl) ?_
  refine VE.then_wp ?_
  refine V.seq ?_
  refine V.region ?_
  refine VL.q (.inl rfl) rfl (by decide) (yq_load rfl fb86_UnB rfl (by first | exact Sees.root (by assumption) | exact Sees.own (by repeat (first | exact List.mem_cons_self | exact List.mem_append_left _ (by assumption) | apply List.mem_cons_of_mem | apply List.mem_append_right)) | exact Sees.root (hR _ (by omega)) | exact Sees.own (RowsIn.mem (by repeat (first | exact RowsIn.here | exact RowsIn.last | apply RowsIn.there | apply RowsIn.thereS)) _ (by omega)) | exact Sees.own (WRowsIn.mem (by repeat (first | exact WRowsIn.here | exact WRowsIn.last | apply WRowsIn.there | apply WRowsIn.thereS)) _ (by omega))) rfl) ?_
  refine VL.q (.inl rfl) rfl (by decide) (yq_idx (k := 4) rfl Try.underlying86 sz23_UnB rfl rfl (by first | exact Sees.root (by assumption) | exact Sees.own (by repeat (first | exact List.mem_cons_self | exact List.mem_append_left _ (by assumption) | apply List.mem_cons_of_mem | apply List.mem_append_right)) | exact Sees.root (hR _ (by omega)) | exact Sees.own (RowsIn.mem (by repeat (first | exact RowsIn.here | exact RowsIn.last | apply RowsIn.there | apply RowsIn.thereS)) _ (by omega)) | exact Sees.own (WRowsIn.mem (by repeat (first | exact WRowsIn.here | exact WRowsIn.last | apply WRowsIn.there | apply WRowsIn.thereS)) _ (by omega))) (by first | rfl | omega | (push_cast; rfl) | (push_cast; omega) | exact tmod_nat _ _) (by rw [fl_length]; exact h5) (by omega)) ?_
  refine VL.q (.inl rfl) rfl (by decide) (yq_loadF rfl fb23_UnB rfl (by first | exact Sees.root (by assumption) | exact Sees.own (by repeat (first | exact List.mem_cons_self | exact List.mem_append_left _ (by assumption) | apply List.mem_cons_of_mem | apply List.mem_append_right)) | exact Sees.root (hR _ (by omega)) | exact Sees.own (RowsIn.mem (by repeat (first | exact RowsIn.here | exact RowsIn.last | apply RowsIn.there | apply RowsIn.thereS)) _ (by omega)) | exact Sees.own (WRowsIn.mem (by repeat (first | exact WRowsIn.here | exact WRowsIn.last | apply WRowsIn.there | apply WRowsIn.thereS)) _ (by omega))) (by omega)) ?_
  refine VL.r (.inl rfl) rfl (by decide) (yr_fconv rfl Try.underlying23 Try.underlying56 (by decide) rfl (fover_up _)) ?_
  refine VL.r (.inl rfl) rfl (by decide) (yr_move rfl rfl) ?_
  refine VL.r (.inl rfl) rfl (by decide) (yr_ofInt rfl Try.underlying88 Try.underlying56 rfl) ?_
  refine VL.r (.inl rfl) rfl (by decide) (yr_float (b := 4674736138332667904) rfl (.inr (.inr (.inr rfl))) rfl rfl) ?_
  refine VL.r (.inl rfl) rfl (by decide) (yr_float rfl (.inr (.inr (.inl rfl))) rfl rfl) ?_
  refine VL.new (.inl rfl) rfl (by decide) (yn_narrow rfl Try.underlying56 Try.underlying23 rfl) ?_
  rintro ⟨v26, hv26⟩
  refine VL.r (.inl rfl) rfl (by decide) (yr_assign rfl rfl) ?_
  refine VL.nil ?_
  refine VE.then_wp ?_
  refine V.ret ?_
  refine ret1 rfl rfl (fun w1 hw => ?_)
  exact ⟨⟨v26, hv26⟩, rfl, hw.below, (fun _ h => by cases h), List.Pairwise.nil⟩

end Go.Proofs.Ytnommdpgmoljcaa


namespace Go.Proofs.Ytnommdpgmoljcaa
open Go.RowKit
set_option linter.unusedVariables false
set_option linter.unusedSimpArgs false
set_option maxRecDepth 20000

theorem zero30_UnI : (Try.prog.info? 30).bind (·.zero) = some (Value.agg #[Value.float .f32 0, Value.float .f32 0, Value.float .f32 0, Value.float .f32 0, Value.int .i64 0, Value.int .i64 0, Value.int .i64 0, Value.slice none 0 0]) := by kernel_rfl
theorem fb9_UnI : flatB Try.prog 9 = true := by kernel_rfl
theorem lay30_UnI : Lay Try.prog 30 [Value.float .f32 0, Value.float .f32 0, Value.float .f32 0, Value.float .f32 0, Value.int .i64 0, Value.int .i64 0, Value.int .i64 0, Value.slice none 0 0] [(0, 3), (3, 1), (4, 1), (5, 1), (6, 1), (7, 1)] := Lay.mk' (by kernel_rfl) (by kernel_rfl)
theorem sz30_UnI : (Try.prog.info? 30).map (·.size) = some 8 := by kernel_rfl
theorem elt23_UnI : Elt Try.prog 23 [Value.float .f32 0] 4 := Elt.mk' (by kernel_rfl) (by decide)
theorem zero86_UnI : (Try.prog.info? 86).bind (·.zero) = some (Value.slice none 0 0) := by kernel_rfl
theorem sz86_UnI : (Try.prog.info? 86).map (·.size) = some 1 := by kernel_rfl
theorem mixed_UnI : Try.prog.follows .mixedOrders = true := by kernel_rfl
theorem fb86_UnI : flatB Try.prog 86 = true := by kernel_rfl
theorem known55_UnI : Known Try.prog 55 := Known.mk' Try.func55 (by kernel_rfl)
theorem sz23_UnI : (Try.prog.info? 23).map (·.size) = some 1 := by kernel_rfl
theorem fb23_UnI : flatB Try.prog 23 = true := by kernel_rfl
theorem lay27_UnI : Lay Try.prog 27 [Value.float .f32 0, Value.float .f32 0, Value.float .f32 0] [(0, 1), (1, 1), (2, 1)] := Lay.mk' (by kernel_rfl) (by kernel_rfl)
theorem sz2_UnI : (Try.prog.info? 2).map (·.size) = some 1 := by kernel_rfl
theorem fb2_UnI : flatB Try.prog 2 = true := by kernel_rfl
theorem sz28_UnI : (Try.prog.info? 28).map (·.size) = some 1 := by kernel_rfl
theorem fb28_UnI : flatB Try.prog 28 = true := by kernel_rfl
theorem known56_UnI : Known Try.prog 56 := Known.mk' Try.func56 (by kernel_rfl)
theorem elt27_UnI : Elt Try.prog 27 [Value.float .f32 0, Value.float .f32 0, Value.float .f32 0] 12 := Elt.mk' (by kernel_rfl) (by decide)
theorem known57_UnI : Known Try.prog 57 := Known.mk' Try.func57 (by kernel_rfl)
theorem known58_UnI : Known Try.prog 58 := Known.mk' Try.func58 (by kernel_rfl)
attribute [local irreducible] fop fcmp fconv fneg fabs List.getD sb rd4 rd2 q16 unX un5 unOk unPre unMs allF pkL stb num

theorem c_implUn {w : World} {s : ByteArray} (hs : s.size ≤ 1048576) : New Try.prog 19 [.string s] w (fun p : Option Addr × Nat => unRes s p) (fun p => [⟨p.1, vl (unR s), p.2 * 3, 27⟩]) := by
  refine New.enter Try.func19 rfl Try.ntmps19 (Nat.le_of_ble_eq_true rfl) ?_
  have hb4 := sb_lt s 4
  have hb5 := sb_lt s 5
  have hb6 := sb_lt s 6
  have hm45 : sb s 4 * sb s 5 ≤ 65025 := Nat.le_trans (Nat.mul_le_mul (show sb s 4 ≤ 255 by omega) (show sb s 5 ≤ 255 by omega)) (by decide)
  have hm456 : unN s ≤ 16581375 := Nat.le_trans (Nat.mul_le_mul hm45 (show sb s 6 ≤ 255 by omega)) (by decide)
  refine V.seq ?_
  refine V.region ?_
  refine VL.new1 (.inl rfl) rfl (by decide) (yn_box rfl rfl (.inl ⟨rfl, rfl⟩)) ?_
  intro b1
  refine VL.new1 (.inl rfl) rfl (by decide) (yn_alloc rfl zero30_UnI rfl) ?_
  intro b2
  refine VL.r (.inl rfl) rfl (by decide) (yr_assign (u := .bool false) rfl rfl) ?_
  refine VL.nil ?_
  refine VE.then_wp ?_
  refine V.seq ?_
  refine V.seq ?_
  refine V.region ?_
  refine VL.q (.inl rfl) rfl (by decide) (yq_load rfl fb9_UnI rfl (by first | exact Sees.root (by assumption) | exact Sees.own (by repeat (first | exact List.mem_cons_self | exact List.mem_append_left _ (by assumption) | apply List.mem_cons_of_mem | apply List.mem_append_right)) | exact Sees.root (hR _ (by omega)) | exact Sees.own (RowsIn.mem (by repeat (first | exact RowsIn.here | exact RowsIn.last | apply RowsIn.there | apply RowsIn.thereS)) _ (by omega)) | exact Sees.own (WRowsIn.mem (by repeat (first | exact WRowsIn.here | exact WRowsIn.last | apply WRowsIn.there | apply WRowsIn.thereS)) _ (by omega))) rfl) ?_
  refine VL.r (.inl rfl) rfl (by decide) (yr_lenString rfl Try.underlying9 rfl) ?_
  refine VL.r (.inl rfl) rfl (by decide) (yr_icmp rfl (.inr (.inr (.inl rfl))) rfl rfl) ?_
  refine VL.r (.inl rfl) rfl (by decide) (yr_move rfl rfl) ?_
  refine VX.split 16 _ rfl (fun h1 => ?_) (fun h1 => ?_)
  · skip
    replace h1 := ic_lss h1
    refine VL.no rfl rfl rfl rfl rfl (by decide) ?_
    refine VL.no rfl rfl rfl rfl rfl (by decide) ?_
    refine VL.no rfl rfl rfl rfl rfl (by decide) ?_
    refine VL.r (.inl rfl) rfl (by decide) (yr_pick_t (u := .bool true) rfl rfl rfl) ?_
    refine VL.nil ?_
    refine VE.then_wp ?_
    refine V.condT rfl ?_
    refine V.seq ?_
    refine V.region ?_
    refine VL.r (.inl rfl) rfl (by decide) (yr_build rfl lay30_UnI rfl .nil (by first | (simp; done) | (simp [vv]; done) | (simp [cn, cn1, cn0]; done)) rfl) ?_
    refine VL.s (.inl rfl) rfl (yc_store rfl sz30_UnI rfl rfl (by repeat (first | exact UpdF.here | apply UpdF.there | apply UpdF.thereS)) (.inr ⟨rfl, rfl⟩) rfl (by first | exact Nat.le_of_ble_eq_true rfl | simp) (by decide) rfl) ?_
    rintro ⟨⟩
    refine VL.r (.inl rfl) rfl (by decide) (yr_assign (u := .bool false) rfl rfl) ?_
    refine VL.nil ?_
    refine VE.then_wp ?_
    refine V.ret ?_
    refine VE.then_ret ?_
    refine retN rfl (.cons (rv_cellS rfl Try.underlying30 sz30_UnI (by first | exact Sees.root (by assumption) | exact Sees.own (by repeat (first | exact List.mem_cons_self | exact List.mem_append_left _ (by assumption) | apply List.mem_cons_of_mem | apply List.mem_append_right)) | exact Sees.root (hR _ (by omega)) | exact Sees.own (RowsIn.mem (by repeat (first | exact RowsIn.here | exact RowsIn.last | apply RowsIn.there | apply RowsIn.thereS)) _ (by omega)) | exact Sees.own (WRowsIn.mem (by repeat (first | exact WRowsIn.here | exact WRowsIn.last | apply WRowsIn.there | apply WRowsIn.thereS)) _ (by omega))) rfl rfl rfl) (.cons (rv_tmp rfl (by nofun)) .nil)) (by nofun) (fun w1 hw => ?_)
    first
      | ((have ho : unOk s = false := unOk_no (by first | exact unPre_no1 (by omega) | exact unPre_no2 (mk_no (by assumption)) | exact unPre_no3 (by omega) | exact unPre_no4 (by omega) | exact unPre_no5 (by assumption))); exact ⟨(none, 0), (unRes_no ho).symm, hw.below, unEnt_no ho, List.pairwise_singleton _ _⟩)
      | (obtain ⟨hj1, hj2, hj3⟩ := un_join hp9 hl9 (fun k hk => hH.2 k (by rw [hl9]; exact hk))
         first
         | (have ho : unOk s = false := hj1 (by assumption)
            exact ⟨(none, 0), (unRes_no ho).symm, hw.below, unEnt_no ho, List.pairwise_singleton _ _⟩)
         | (have ha : allF vs (vs.length * 3) = true := by assumption
            have ho : unOk s = false := hj2 ha hq9
            exact ⟨(none, 0), (unRes_no ho).symm, hw.below, unEnt_no ho, List.pairwise_singleton _ _⟩)
         | (have ha : allF vs (vs.length * 3) = true := by assumption
            obtain ⟨ho, e⟩ := hj3 ha hq9
            refine ⟨(ar1, cr1), ?_, ?_⟩
            · rw [unRes_yes ho, ← e]; rfl
            · rw [unR_yes ho, ← e]; exact (hw.pick (by apply Pick.one; repeat (first | exact Rem.here | apply Rem.there))).out1))
  · skip
    replace h1 := ic_lss' h1
    refine VL.q (.inr ⟨_, _, _, rfl, rfl, rfl⟩) rfl (by decide) (yq_load rfl fb9_UnI rfl (by first | exact Sees.root (by assumption) | exact Sees.own (by repeat (first | exact List.mem_cons_self | exact List.mem_append_left _ (by assumption) | apply List.mem_cons_of_mem | apply List.mem_append_right)) | exact Sees.root (hR _ (by omega)) | exact Sees.own (RowsIn.mem (by repeat (first | exact RowsIn.here | exact RowsIn.last | apply RowsIn.there | apply RowsIn.thereS)) _ (by omega)) | exact Sees.own (WRowsIn.mem (by repeat (first | exact WRowsIn.here | exact WRowsIn.last | apply WRowsIn.there | apply WRowsIn.thereS)) _ (by omega))) rfl) ?_
    refine VL.r (.inr ⟨_, _, _, rfl, rfl, rfl⟩) rfl (by decide) (yr_strPart (l := 0) (h := 4) rfl Try.underlying9 rfl OptI.no (OptI.at rfl rfl) (by omega) (by omega)) ?_
    refine VL.r (.inr ⟨_, _, _, rfl, rfl, rfl⟩) rfl (by decide) (yr_scmp rfl rfl rfl (.inr rfl)) ?_
    refine VL.r (.inl rfl) rfl (by decide) (yr_pick_f rfl rfl rfl) ?_
    refine VL.nil ?_
    refine VE.then_wp ?_
    refine V.cond rfl (fun h3 => ?_) (fun h3 => ?_)
    · skip
      refine V.seq ?_
      refine V.region ?_
      refine VL.r (.inl rfl) rfl (by decide) (yr_build rfl lay30_UnI rfl .nil (by first | (simp; done) | (simp [vv]; done) | (simp [cn, cn1, cn0]; done)) rfl) ?_
      refine VL.s (.inl rfl) rfl (yc_store rfl sz30_UnI rfl rfl (by repeat (first | exact UpdF.here | apply UpdF.there | apply UpdF.thereS)) (.inr ⟨rfl, rfl⟩) rfl (by first | exact Nat.le_of_ble_eq_true rfl | simp) (by decide) rfl) ?_
      rintro ⟨⟩
      refine VL.r (.inl rfl) rfl (by decide) (yr_assign (u := .bool false) rfl rfl) ?_
      refine VL.nil ?_
      refine VE.then_wp ?_
      refine V.ret ?_
      refine VE.then_ret ?_
      refine retN rfl (.cons (rv_cellS rfl Try.underlying30 sz30_UnI (by first | exact Sees.root (by assumption) | exact Sees.own (by repeat (first | exact List.mem_cons_self | exact List.mem_append_left _ (by assumption) | apply List.mem_cons_of_mem | apply List.mem_append_right)) | exact Sees.root (hR _ (by omega)) | exact Sees.own (RowsIn.mem (by repeat (first | exact RowsIn.here | exact RowsIn.last | apply RowsIn.there | apply RowsIn.thereS)) _ (by omega)) | exact Sees.own (WRowsIn.mem (by repeat (first | exact WRowsIn.here | exact WRowsIn.last | apply WRowsIn.there | apply WRowsIn.thereS)) _ (by omega))) rfl rfl rfl) (.cons (rv_tmp rfl (by nofun)) .nil)) (by nofun) (fun w1 hw => ?_)
      first
        | ((have ho : unOk s = false := unOk_no (by first | exact unPre_no1 (by omega) | exact unPre_no2 (mk_no (by assumption)) | exact unPre_no3 (by omega) | exact unPre_no4 (by omega) | exact unPre_no5 (by assumption))); exact ⟨(none, 0), (unRes_no ho).symm, hw.below, unEnt_no ho, List.pairwise_singleton _ _⟩)
        | (obtain ⟨hj1, hj2, hj3⟩ := un_join hp9 hl9 (fun k hk => hH.2 k (by rw [hl9]; exact hk))
           first
           | (have ho : unOk s = false := hj1 (by assumption)
              exact ⟨(none, 0), (unRes_no ho).symm, hw.below, unEnt_no ho, List.pairwise_singleton _ _⟩)
           | (have ha : allF vs (vs.length * 3) = true := by assumption
              have ho : unOk s = false := hj2 ha hq9
              exact ⟨(none, 0), (unRes_no ho).symm, hw.below, unEnt_no ho, List.pairwise_singleton _ _⟩)
           | (have ha : allF vs (vs.length * 3) = true := by assumption
              obtain ⟨ho, e⟩ := hj3 ha hq9
              refine ⟨(ar1, cr1), ?_, ?_⟩
              · rw [unRes_yes ho, ← e]; rfl
              · rw [unR_yes ho, ← e]; exact (hw.pick (by apply Pick.one; repeat (first | exact Rem.here | apply Rem.there))).out1))
    · skip
      have hmk := mk_yes h3
      refine V.skip ?_
      refine VE.then_wp ?_
      refine V.seq ?_
      refine V.region ?_
      refine VL.new1 (.inl rfl) rfl (by decide) (yn_lit rfl Try.underlying86 elt23_UnI rfl (by decide) .nil (by first | (simp; done) | (simp [cn, cn1, cn0]; done)) rfl rfl rfl) ?_
      intro b22
      refine VL.new1 (.inl rfl) rfl (by decide) (yn_alloc rfl zero86_UnI rfl) ?_
      intro b4
      refine VL.s (.inl rfl) rfl (yc_store rfl sz86_UnI rfl rfl (by repeat (first | exact UpdF.here | apply UpdF.there | apply UpdF.thereS)) (.inl ⟨rfl, rfl⟩) rfl (by first | exact Nat.le_of_ble_eq_true rfl | simp) (by decide) rfl) ?_
      rintro ⟨⟩
      refine VL.nil ?_
      refine VE.then_wp ?_
      refine V.seq ?_
      refine V.seq ?_
      refine V.region ?_
      refine VL.r (.inl rfl) rfl (by decide) (yr_assign (u := .int .i64 7) rfl rfl) ?_
      refine VL.nil ?_
      refine VE.then_wp ?_
      refine V.block ?_
      refine V.loopc (G := Nat × (Option Addr) × Nat) [(1, _), (2, _), (4, _)] (fun ⟨k, ar, cr⟩ => k ≤ 5 ∧ True) (fun ⟨k, ar, cr⟩ => [⟨some ⟨b4, 0, none⟩, [.slice ar k cr], 1, 86⟩, ⟨ar, fl (un5 s k), cr * 1, 23⟩, ⟨some ⟨b1, 0, none⟩, [.string s], 1, 9⟩, ⟨some ⟨b2, 0, none⟩, [.float .f32 0, .float .f32 0, .float .f32 0, .float .f32 0, .int .i64 0, .int .i64 0, .int .i64 0, .slice none 0 0], 8, 30⟩]) (fun ⟨k, ar, cr⟩ => [(5, .int .i64 ((7 + k * 4 : Nat) : Int))]) (fun ⟨k, ar, cr⟩ => 5 - k) (0, some ⟨b22, 0, none⟩, 0) (.cons rfl (.cons rfl (.cons rfl .nil))) (.cons rfl .nil) ?_ ?_ ?_
      · exact (fun w hw => by dsimp only; rw [un5_0]; exact hw.pick (by apply Pick.e4; all_goals (repeat (first | exact Rem.here | apply Rem.there))))
      · exact (by exact ⟨Nat.zero_le _, trivial⟩)
      rintro ⟨k, ar, cr⟩ ⟨hk, _⟩
      show V _ _ _ [⟨some ⟨b4, 0, none⟩, [.slice ar k cr], 1, 86⟩, ⟨ar, fl (un5 s k), cr * 1, 23⟩, ⟨some ⟨b1, 0, none⟩, [.string s], 1, 9⟩, ⟨some ⟨b2, 0, none⟩, [.float .f32 0, .float .f32 0, .float .f32 0, .float .f32 0, .int .i64 0, .int .i64 0, .int .i64 0, .slice none 0 0], 8, 30⟩] ([(5, .int .i64 ((7 + k * 4 : Nat) : Int))] ++ [(1, _), (2, _), (4, _)]) _ _
      refine V.seq ?_
      refine V.seq ?_
      refine V.region ?_
      refine VL.r (.inl rfl) rfl (by decide) (yr_move rfl rfl) ?_
      refine VL.r (.inl rfl) rfl (by decide) (yr_icmp rfl (.inr (.inr (.inl rfl))) rfl rfl) ?_
      refine VL.nil ?_
      refine VE.then_wp ?_
      refine V.cond rfl (fun h4 => ?_) (fun h4 => ?_)
      · skip
        replace h4 := ic_lss h4
        refine V.skip ?_
        refine VE.then_wp ?_
        refine V.seq ?_
        refine V.block ?_
        refine V.draw [(0, 0), (1, 0), (2, 0), (3, 0), (4, 0), (5, 0), (6, 0), (7, 1), (8, 3), (9, 3)] mixed_UnI (by kernel_rfl) (by intro j o hj; simp at hj) ?_
        refine SW.q rfl (.inl rfl) rfl (by decide) (yq_load rfl fb86_UnI rfl (by first | exact Sees.root (by assumption) | exact Sees.own (by repeat (first | exact List.mem_cons_self | exact List.mem_append_left _ (by assumption) | apply List.mem_cons_of_mem | apply List.mem_append_right)) | exact Sees.root (hR _ (by omega)) | exact Sees.own (RowsIn.mem (by repeat (first | exact RowsIn.here | exact RowsIn.last | apply RowsIn.there | apply RowsIn.thereS)) _ (by omega)) | exact Sees.own (WRowsIn.mem (by repeat (first | exact WRowsIn.here | exact WRowsIn.last | apply WRowsIn.there | apply WRowsIn.thereS)) _ (by omega))) rfl) ?_
        refine SW.q rfl (.inl rfl) rfl (by decide) (yq_load rfl fb9_UnI rfl (by first | exact Sees.root (by assumption) | exact Sees.own (by repeat (first | exact List.mem_cons_self | exact List.mem_append_left _ (by assumption) | apply List.mem_cons_of_mem | apply List.mem_append_right)) | exact Sees.root (hR _ (by omega)) | exact Sees.own (RowsIn.mem (by repeat (first | exact RowsIn.here | exact RowsIn.last | apply RowsIn.there | apply RowsIn.thereS)) _ (by omega)) | exact Sees.own (WRowsIn.mem (by repeat (first | exact WRowsIn.here | exact WRowsIn.last | apply WRowsIn.there | apply WRowsIn.thereS)) _ (by omega))) rfl) ?_
        refine SW.r rfl (.inl rfl) rfl (by decide) (yr_move rfl rfl) ?_
        refine SW.r rfl (.inl rfl) rfl (by decide) (yr_move rfl rfl) ?_
        refine SW.r rfl (.inl rfl) rfl (by decide) (yr_int rfl rfl rfl (.inl ⟨rfl, wrap_in (by omega)⟩)) ?_
        refine SW.r rfl (.inl rfl) rfl (by decide) (yr_strPart (l := 7 + k * 4) (h := 7 + k * 4 + 4) rfl Try.underlying9 rfl (OptI.at rfl rfl) (OptI.at rfl (by omega)) (by omega) (by omega)) ?_
        refine SW.q rfl (.inl rfl) rfl (by decide) (un_rd (p := 7 + k * 4) (by omega) (yq_callf rfl known55_UnI (.cons rfl .nil) (fun w hw => c_readNum (by rw [extract_size (by omega)]; omega)))) ?_
        refine SW.new1 rfl (.inl rfl) rfl (by decide) (yn_lit rfl Try.underlying86 elt23_UnI rfl (by decide) (.cons rfl .nil) (by first | (simp; done) | (simp [cn, cn1, cn0]; done)) rfl rfl rfl) ?_
        intro b34
        refine SW.c rfl (.inl rfl) rfl (by decide) (yc_appendz 1 rfl rfl Try.underlying86 elt23_UnI rfl rfl (by repeat (first | exact UpdF.here | apply UpdF.there | apply UpdF.thereS)) (by first | exact Sees.root (by assumption) | exact Sees.own (by repeat (first | exact List.mem_cons_self | exact List.mem_append_left _ (by assumption) | apply List.mem_cons_of_mem | apply List.mem_append_right)) | exact Sees.root (hR _ (by omega)) | exact Sees.own (RowsIn.mem (by repeat (first | exact RowsIn.here | exact RowsIn.last | apply RowsIn.there | apply RowsIn.thereS)) _ (by omega)) | exact Sees.own (WRowsIn.mem (by repeat (first | exact WRowsIn.here | exact WRowsIn.last | apply WRowsIn.there | apply WRowsIn.thereS)) _ (by omega))) rfl (by first | (rw [fl_length, un5_length]; done) | (rw [fl_length, un5_length, Nat.mul_one]; done) | (rw [vl_length]; done)) rfl (by first | exact fl_scal _ | exact vl_scal _) rfl (by omega) (by omega)) ?_
        rintro ⟨a35, c35⟩
        refine SW.s rfl (.inl rfl) rfl (yc_store rfl sz86_UnI rfl rfl (by repeat (first | exact UpdF.here | apply UpdF.there | apply UpdF.thereS)) (.inl ⟨rfl, rfl⟩) rfl (by first | exact Nat.le_of_ble_eq_true rfl | simp) (by decide) rfl) ?_
        rintro ⟨⟩
        refine SW.done ?_
        refine VE.block_normal ?_
        refine VE.then_wp ?_
        refine V.region ?_
        refine VL.r (.inl rfl) rfl (by decide) (yr_move rfl rfl) ?_
        refine VL.r (.inl rfl) rfl (by decide) (yr_int rfl rfl rfl (.inl ⟨rfl, wrap_in (by omega)⟩)) ?_
        refine VL.r (.inl rfl) rfl (by decide) (yr_assign rfl rfl) ?_
        refine VL.nil ?_
        refine VE.round (k + 1, a35, c35) ?_ ?_ ?_ ?_ ?_
        · exact (.cons (congrArg (fun i => some (Value.int .i64 i)) (by omega)) .nil)
        · exact (.cons rfl (.cons rfl (.cons rfl .nil)))
        · exact (fun w hw => by dsimp only; rw [← un5_snoc]; exact hw.pick (by apply Pick.e4; all_goals (repeat (first | exact Rem.here | apply Rem.there))))
        · exact ⟨by omega, trivial⟩
        · (try dsimp only); omega
      · skip
        replace h4 := ic_lss' h4
        obtain rfl : k = 5 := by omega
        refine V.exit ?_
        refine VE.then_exit ?_
        refine VE.then_exit ?_
        refine VE.block_here ?_
        refine VE.then_wp ?_
        refine V.seq ?_
        refine V.draw [(0, 0), (1, 0), (2, 0), (3, 0), (4, 0), (5, 0), (6, 0), (7, 0), (8, 0), (9, 0), (10, 0), (11, 0), (12, 0), (13, 0), (14, 0), (15, 0), (16, 0), (17, 0), (18, 0), (19, 0), (20, 0), (21, 0), (22, 0), (23, 2), (24, 3)] mixed_UnI (by kernel_rfl) (by intro j o hj ho; simp only [List.mem_cons, List.mem_nil_iff, Prod.mk.injEq, or_false, false_or, reduceCtorEq, and_false, and_true, Nat.reduceEqDiff] at hj; subst hj; cases ho; exact ⟨rfl, ⟨_, _, rfl, by first | exact zero30_UnI⟩, _, rfl, by decide⟩) ?_
        refine SW.q rfl (.inl rfl) rfl (by decide) (yq_load rfl fb86_UnI rfl (by first | exact Sees.root (by assumption) | exact Sees.own (by repeat (first | exact List.mem_cons_self | exact List.mem_append_left _ (by assumption) | apply List.mem_cons_of_mem | apply List.mem_append_right)) | exact Sees.root (hR _ (by omega)) | exact Sees.own (RowsIn.mem (by repeat (first | exact RowsIn.here | exact RowsIn.last | apply RowsIn.there | apply RowsIn.thereS)) _ (by omega)) | exact Sees.own (WRowsIn.mem (by repeat (first | exact WRowsIn.here | exact WRowsIn.last | apply WRowsIn.there | apply WRowsIn.thereS)) _ (by omega))) rfl) ?_
        refine SW.q rfl (.inl rfl) rfl (by decide) (yq_idx (k := 0) rfl Try.underlying86 sz23_UnI rfl rfl (by first | exact Sees.root (by assumption) | exact Sees.own (by repeat (first | exact List.mem_cons_self | exact List.mem_append_left _ (by assumption) | apply List.mem_cons_of_mem | apply List.mem_append_right)) | exact Sees.root (hR _ (by omega)) | exact Sees.own (RowsIn.mem (by repeat (first | exact RowsIn.here | exact RowsIn.last | apply RowsIn.there | apply RowsIn.thereS)) _ (by omega)) | exact Sees.own (WRowsIn.mem (by repeat (first | exact WRowsIn.here | exact WRowsIn.last | apply WRowsIn.there | apply WRowsIn.thereS)) _ (by omega))) (by first | rfl | omega | (push_cast; rfl) | (push_cast; omega) | exact tmod_nat _ _) (by rw [fl_length, un5_length]) (by omega)) ?_
        refine SW.q rfl (.inl rfl) rfl (by decide) (un5_q 0 (n := 7) rfl (by decide) (yq_loadF rfl fb23_UnI rfl (by first | exact Sees.root (by assumption) | exact Sees.own (by repeat (first | exact List.mem_cons_self | exact List.mem_append_left _ (by assumption) | apply List.mem_cons_of_mem | apply List.mem_append_right)) | exact Sees.root (hR _ (by omega)) | exact Sees.own (RowsIn.mem (by repeat (first | exact RowsIn.here | exact RowsIn.last | apply RowsIn.there | apply RowsIn.thereS)) _ (by omega)) | exact Sees.own (WRowsIn.mem (by repeat (first | exact WRowsIn.here | exact WRowsIn.last | apply WRowsIn.there | apply WRowsIn.thereS)) _ (by omega))) (by rw [un5_length]; decide))) ?_
        refine SW.q rfl (.inl rfl) rfl (by decide) (yq_load rfl fb86_UnI rfl (by first | exact Sees.root (by assumption) | exact Sees.own (by repeat (first | exact List.mem_cons_self | exact List.mem_append_left _ (by assumption) | apply List.mem_cons_of_mem | apply List.mem_append_right)) | exact Sees.root (hR _ (by omega)) | exact Sees.own (RowsIn.mem (by repeat (first | exact RowsIn.here | exact RowsIn.last | apply RowsIn.there | apply RowsIn.thereS)) _ (by omega)) | exact Sees.own (WRowsIn.mem (by repeat (first | exact WRowsIn.here | exact WRowsIn.last | apply WRowsIn.there | apply WRowsIn.thereS)) _ (by omega))) rfl) ?_
        refine SW.q rfl (.inl rfl) rfl (by decide) (yq_idx (k := 1) rfl Try.underlying86 sz23_UnI rfl rfl (by first | exact Sees.root (by assumption) | exact Sees.own (by repeat (first | exact List.mem_cons_self | exact List.mem_append_left _ (by assumption) | apply List.mem_cons_of_mem | apply List.mem_append_right)) | exact Sees.root (hR _ (by omega)) | exact Sees.own (RowsIn.mem (by repeat (first | exact RowsIn.here | exact RowsIn.last | apply RowsIn.there | apply RowsIn.thereS)) _ (by omega)) | exact Sees.own (WRowsIn.mem (by repeat (first | exact WRowsIn.here | exact WRowsIn.last | apply WRowsIn.there | apply WRowsIn.thereS)) _ (by omega))) (by first | rfl | omega | (push_cast; rfl) | (push_cast; omega) | exact tmod_nat _ _) (by rw [fl_length, un5_length]) (by omega)) ?_
        refine SW.q rfl (.inl rfl) rfl (by decide) (un5_q 1 (n := 11) rfl (by decide) (yq_loadF rfl fb23_UnI rfl (by first | exact Sees.root (by assumption) | exact Sees.own (by repeat (first | exact List.mem_cons_self | exact List.mem_append_left _ (by assumption) | apply List.mem_cons_of_mem | apply List.mem_append_right)) | exact Sees.root (hR _ (by omega)) | exact Sees.own (RowsIn.mem (by repeat (first | exact RowsIn.here | exact RowsIn.last | apply RowsIn.there | apply RowsIn.thereS)) _ (by omega)) | exact Sees.own (WRowsIn.mem (by repeat (first | exact WRowsIn.here | exact WRowsIn.last | apply WRowsIn.there | apply WRowsIn.thereS)) _ (by omega))) (by rw [un5_length]; decide))) ?_
        refine SW.q rfl (.inl rfl) rfl (by decide) (yq_load rfl fb86_UnI rfl (by first | exact Sees.root (by assumption) | exact Sees.own (by repeat (first | exact List.mem_cons_self | exact List.mem_append_left _ (by assumption) | apply List.mem_cons_of_mem | apply List.mem_append_right)) | exact Sees.root (hR _ (by omega)) | exact Sees.own (RowsIn.mem (by repeat (first | exact RowsIn.here | exact RowsIn.last | apply RowsIn.there | apply RowsIn.thereS)) _ (by omega)) | exact Sees.own (WRowsIn.mem (by repeat (first | exact WRowsIn.here | exact WRowsIn.last | apply WRowsIn.there | apply WRowsIn.thereS)) _ (by omega))) rfl) ?_
        refine SW.q rfl (.inl rfl) rfl (by decide) (yq_idx (k := 2) rfl Try.underlying86 sz23_UnI rfl rfl (by first | exact Sees.root (by assumption) | exact Sees.own (by repeat (first | exact List.mem_cons_self | exact List.mem_append_left _ (by assumption) | apply List.mem_cons_of_mem | apply List.mem_append_right)) | exact Sees.root (hR _ (by omega)) | exact Sees.own (RowsIn.mem (by repeat (first | exact RowsIn.here | exact RowsIn.last | apply RowsIn.there | apply RowsIn.thereS)) _ (by omega)) | exact Sees.own (WRowsIn.mem (by repeat (first | exact WRowsIn.here | exact WRowsIn.last | apply WRowsIn.there | apply WRowsIn.thereS)) _ (by omega))) (by first | rfl | omega | (push_cast; rfl) | (push_cast; omega) | exact tmod_nat _ _) (by rw [fl_length, un5_length]) (by omega)) ?_
        refine SW.q rfl (.inl rfl) rfl (by decide) (un5_q 2 (n := 15) rfl (by decide) (yq_loadF rfl fb23_UnI rfl (by first | exact Sees.root (by assumption) | exact Sees.own (by repeat (first | exact List.mem_cons_self | exact List.mem_append_left _ (by assumption) | apply List.mem_cons_of_mem | apply List.mem_append_right)) | exact Sees.root (hR _ (by omega)) | exact Sees.own (RowsIn.mem (by repeat (first | exact RowsIn.here | exact RowsIn.last | apply RowsIn.there | apply RowsIn.thereS)) _ (by omega)) | exact Sees.own (WRowsIn.mem (by repeat (first | exact WRowsIn.here | exact WRowsIn.last | apply WRowsIn.there | apply WRowsIn.thereS)) _ (by omega))) (by rw [un5_length]; decide))) ?_
        refine SW.r rfl (.inl rfl) rfl (by decide) (yr_build rfl lay27_UnI rfl (.cons rfl (.cons rfl (.cons rfl .nil))) (by first | (simp; done) | (simp [vv]; done) | (simp [cn, cn1, cn0]; done)) rfl) ?_
        refine SW.q rfl (.inl rfl) rfl (by decide) (yq_load rfl fb86_UnI rfl (by first | exact Sees.root (by assumption) | exact Sees.own (by repeat (first | exact List.mem_cons_self | exact List.mem_append_left _ (by assumption) | apply List.mem_cons_of_mem | apply List.mem_append_right)) | exact Sees.root (hR _ (by omega)) | exact Sees.own (RowsIn.mem (by repeat (first | exact RowsIn.here | exact RowsIn.last | apply RowsIn.there | apply RowsIn.thereS)) _ (by omega)) | exact Sees.own (WRowsIn.mem (by repeat (first | exact WRowsIn.here | exact WRowsIn.last | apply WRowsIn.there | apply WRowsIn.thereS)) _ (by omega))) rfl) ?_
        refine SW.q rfl (.inl rfl) rfl (by decide) (yq_idx (k := 3) rfl Try.underlying86 sz23_UnI rfl rfl (by first | exact Sees.root (by assumption) | exact Sees.own (by repeat (first | exact List.mem_cons_self | exact List.mem_append_left _ (by assumption) | apply List.mem_cons_of_mem | apply List.mem_append_right)) | exact Sees.root (hR _ (by omega)) | exact Sees.own (RowsIn.mem (by repeat (first | exact RowsIn.here | exact RowsIn.last | apply RowsIn.there | apply RowsIn.thereS)) _ (by omega)) | exact Sees.own (WRowsIn.mem (by repeat (first | exact WRowsIn.here | exact WRowsIn.last | apply WRowsIn.there | apply WRowsIn.thereS)) _ (by omega))) (by first | rfl | omega | (push_cast; rfl) | (push_cast; omega) | exact tmod_nat _ _) (by rw [fl_length, un5_length]) (by omega)) ?_
        refine SW.q rfl (.inl rfl) rfl (by decide) (un5_q 3 (n := 19) rfl (by decide) (yq_loadF rfl fb23_UnI rfl (by first | exact Sees.root (by assumption) | exact Sees.own (by repeat (first | exact List.mem_cons_self | exact List.mem_append_left _ (by assumption) | apply List.mem_cons_of_mem | apply List.mem_append_right)) | exact Sees.root (hR _ (by omega)) | exact Sees.own (RowsIn.mem (by repeat (first | exact RowsIn.here | exact RowsIn.last | apply RowsIn.there | apply RowsIn.thereS)) _ (by omega)) | exact Sees.own (WRowsIn.mem (by repeat (first | exact WRowsIn.here | exact WRowsIn.last | apply WRowsIn.there | apply WRowsIn.thereS)) _ (by omega))) (by rw [un5_length]; decide))) ?_
        refine SW.q rfl (.inl rfl) rfl (by decide) (yq_load rfl fb9_UnI rfl (by first | exact Sees.root (by assumption) | exact Sees.own (by repeat (first | exact List.mem_cons_self | exact List.mem_append_left _ (by assumption) | apply List.mem_cons_of_mem | apply List.mem_append_right)) | exact Sees.root (hR _ (by omega)) | exact Sees.own (RowsIn.mem (by repeat (first | exact RowsIn.here | exact RowsIn.last | apply RowsIn.there | apply RowsIn.thereS)) _ (by omega)) | exact Sees.own (WRowsIn.mem (by repeat (first | exact WRowsIn.here | exact WRowsIn.last | apply WRowsIn.there | apply WRowsIn.thereS)) _ (by omega))) rfl) ?_
        refine SW.r rfl (.inl rfl) rfl (by decide) (yr_strByte (i := 4) rfl Try.underlying9 rfl rfl (by first | rfl | omega | (push_cast; rfl) | (push_cast; omega)) (by omega)) ?_
        refine SW.r rfl (.inl rfl) rfl (by decide) (yr_intConv (r := (sb s 4 : Int)) rfl Try.underlying5 Try.underlying2 rfl (i64_nat (by omega))) ?_
        refine SW.q rfl (.inl rfl) rfl (by decide) (yq_load rfl fb9_UnI rfl (by first | exact Sees.root (by assumption) | exact Sees.own (by repeat (first | exact List.mem_cons_self | exact List.mem_append_left _ (by assumption) | apply List.mem_cons_of_mem | apply List.mem_append_right)) | exact Sees.root (hR _ (by omega)) | exact Sees.own (RowsIn.mem (by repeat (first | exact RowsIn.here | exact RowsIn.last | apply RowsIn.there | apply RowsIn.thereS)) _ (by omega)) | exact Sees.own (WRowsIn.mem (by repeat (first | exact WRowsIn.here | exact WRowsIn.last | apply WRowsIn.there | apply WRowsIn.thereS)) _ (by omega))) rfl) ?_
        refine SW.r rfl (.inl rfl) rfl (by decide) (yr_strByte (i := 5) rfl Try.underlying9 rfl rfl (by first | rfl | omega | (push_cast; rfl) | (push_cast; omega)) (by omega)) ?_
        refine SW.r rfl (.inl rfl) rfl (by decide) (yr_intConv (r := (sb s 5 : Int)) rfl Try.underlying5 Try.underlying2 rfl (i64_nat (by omega))) ?_
        refine SW.q rfl (.inl rfl) rfl (by decide) (yq_load rfl fb9_UnI rfl (by first | exact Sees.root (by assumption) | exact Sees.own (by repeat (first | exact List.mem_cons_self | exact List.mem_append_left _ (by assumption) | apply List.mem_cons_of_mem | apply List.mem_append_right)) | exact Sees.root (hR _ (by omega)) | exact Sees.own (RowsIn.mem (by repeat (first | exact RowsIn.here | exact RowsIn.last | apply RowsIn.there | apply RowsIn.thereS)) _ (by omega)) | exact Sees.own (WRowsIn.mem (by repeat (first | exact WRowsIn.here | exact WRowsIn.last | apply WRowsIn.there | apply WRowsIn.thereS)) _ (by omega))) rfl) ?_
        refine SW.r rfl (.inl rfl) rfl (by decide) (yr_strByte (i := 6) rfl Try.underlying9 rfl rfl (by first | rfl | omega | (push_cast; rfl) | (push_cast; omega)) (by omega)) ?_
        refine SW.r rfl (.inl rfl) rfl (by decide) (yr_intConv (r := (sb s 6 : Int)) rfl Try.underlying5 Try.underlying2 rfl (i64_nat (by omega))) ?_
        refine SW.r rfl (.inl rfl) rfl (by decide) (yr_build rfl lay30_UnI rfl (.cons rfl (.cons rfl (.cons rfl (.cons rfl (.cons rfl .nil))))) (by first | (simp; done) | (simp [vv]; done) | (simp [cn, cn1, cn0]; done)) rfl) ?_
        refine SW.a rfl rfl rfl zero30_UnI rfl rfl (by decide) ?_
        intro b6
        refine SW.s rfl (.inl rfl) rfl (yc_store rfl sz30_UnI rfl rfl (by repeat (first | exact UpdF.here | apply UpdF.there | apply UpdF.thereS)) (.inr ⟨rfl, rfl⟩) rfl (by first | exact Nat.le_of_ble_eq_true rfl | simp) (by decide) rfl) ?_
        rintro ⟨⟩
        refine SW.done ?_
        refine VE.then_wp ?_
        refine V.seq ?_
        refine V.region ?_
        refine VL.r (.inl rfl) rfl (by decide) (yr_fieldAddr rfl Try.underlying30 rfl rfl sz2_UnI (by decide) rfl) ?_
        refine VL.q (.inl rfl) rfl (by decide) (yq_load rfl fb2_UnI rfl (by first | exact Sees.root (by assumption) | exact Sees.own (by repeat (first | exact List.mem_cons_self | exact List.mem_append_left _ (by assumption) | apply List.mem_cons_of_mem | apply List.mem_append_right)) | exact Sees.root (hR _ (by omega)) | exact Sees.own (RowsIn.mem (by repeat (first | exact RowsIn.here | exact RowsIn.last | apply RowsIn.there | apply RowsIn.thereS)) _ (by omega)) | exact Sees.own (WRowsIn.mem (by repeat (first | exact WRowsIn.here | exact WRowsIn.last | apply WRowsIn.there | apply WRowsIn.thereS)) _ (by omega))) rfl) ?_
        refine VL.r (.inl rfl) rfl (by decide) (yr_fieldAddr rfl Try.underlying30 rfl rfl sz2_UnI (by decide) rfl) ?_
        refine VL.q (.inl rfl) rfl (by decide) (yq_load rfl fb2_UnI rfl (by first | exact Sees.root (by assumption) | exact Sees.own (by repeat (first | exact List.mem_cons_self | exact List.mem_append_left _ (by assumption) | apply List.mem_cons_of_mem | apply List.mem_append_right)) | exact Sees.root (hR _ (by omega)) | exact Sees.own (RowsIn.mem (by repeat (first | exact RowsIn.here | exact RowsIn.last | apply RowsIn.there | apply RowsIn.thereS)) _ (by omega)) | exact Sees.own (WRowsIn.mem (by repeat (first | exact WRowsIn.here | exact WRowsIn.last | apply WRowsIn.there | apply WRowsIn.thereS)) _ (by omega))) rfl) ?_
        refine VL.r (.inl rfl) rfl (by decide) (yr_mulN (sb s 4) (sb s 5) rfl rfl rfl (by omega) (by omega) (Nat.le_trans (mul_small (by omega) (by omega)) (by decide))) ?_
        refine VL.r (.inl rfl) rfl (by decide) (yr_fieldAddr rfl Try.underlying30 rfl rfl sz2_UnI (by decide) rfl) ?_
        refine VL.q (.inl rfl) rfl (by decide) (yq_load rfl fb2_UnI rfl (by first | exact Sees.root (by assumption) | exact Sees.own (by repeat (first | exact List.mem_cons_self | exact List.mem_append_left _ (by assumption) | apply List.mem_cons_of_mem | apply List.mem_append_right)) | exact Sees.root (hR _ (by omega)) | exact Sees.own (RowsIn.mem (by repeat (first | exact RowsIn.here | exact RowsIn.last | apply RowsIn.there | apply RowsIn.thereS)) _ (by omega)) | exact Sees.own (WRowsIn.mem (by repeat (first | exact WRowsIn.here | exact WRowsIn.last | apply WRowsIn.there | apply WRowsIn.thereS)) _ (by omega))) rfl) ?_
        refine VL.r (.inl rfl) rfl (by decide) (show YR _ _ _ (.int .i64 ((unN s : Nat) : Int)) from yr_mulN (sb s 4 * sb s 5) (sb s 6) rfl rfl rfl rfl rfl (Nat.le_trans (mul_small (by omega) (by omega)) (by decide))) ?_
        refine VL.r (.inl rfl) rfl (by decide) (yr_assign rfl rfl) ?_
        refine VL.nil ?_
        refine VE.then_wp ?_
        refine V.seq ?_
        refine V.seq ?_
        refine V.region ?_
        refine VL.r (.inl rfl) rfl (by decide) (yr_move rfl rfl) ?_
        refine VL.r (.inl rfl) rfl (by decide) (yr_icmp rfl (.inr (.inr (.inr (.inr (.inl rfl))))) rfl rfl) ?_
        refine VL.r (.inl rfl) rfl (by decide) (yr_move rfl rfl) ?_
        refine VX.split 69 _ rfl (fun h5 => ?_) (fun h5 => ?_)
        · skip
          replace h5 := ic_gtr h5
          refine VL.no rfl rfl rfl rfl rfl (by decide) ?_
          refine VL.no rfl rfl rfl rfl rfl (by decide) ?_
          refine VL.no rfl rfl rfl rfl rfl (by decide) ?_
          refine VL.no rfl rfl rfl rfl rfl (by decide) ?_
          refine VL.no rfl rfl rfl rfl rfl (by decide) ?_
          refine VL.no rfl rfl rfl rfl rfl (by decide) ?_
          refine VL.r (.inl rfl) rfl (by decide) (yr_pick_t (u := .bool true) rfl rfl rfl) ?_
          refine VL.nil ?_
          refine VE.then_wp ?_
          refine V.condT rfl ?_
          refine V.seq ?_
          refine V.region ?_
          refine VL.r (.inl rfl) rfl (by decide) (yr_build rfl lay30_UnI rfl .nil (by first | (simp; done) | (simp [vv]; done) | (simp [cn, cn1, cn0]; done)) rfl) ?_
          refine VL.s (.inl rfl) rfl (yc_store rfl sz30_UnI rfl rfl (by repeat (first | exact UpdF.here | apply UpdF.there | apply UpdF.thereS)) (.inr ⟨rfl, rfl⟩) rfl (by first | exact Nat.le_of_ble_eq_true rfl | simp) (by decide) rfl) ?_
          rintro ⟨⟩
          refine VL.r (.inl rfl) rfl (by decide) (yr_assign (u := .bool false) rfl rfl) ?_
          refine VL.nil ?_
          refine VE.then_wp ?_
          refine V.ret ?_
          refine VE.then_ret ?_
          refine retN rfl (.cons (rv_cellS rfl Try.underlying30 sz30_UnI (by first | exact Sees.root (by assumption) | exact Sees.own (by repeat (first | exact List.mem_cons_self | exact List.mem_append_left _ (by assumption) | apply List.mem_cons_of_mem | apply List.mem_append_right)) | exact Sees.root (hR _ (by omega)) | exact Sees.own (RowsIn.mem (by repeat (first | exact RowsIn.here | exact RowsIn.last | apply RowsIn.there | apply RowsIn.thereS)) _ (by omega)) | exact Sees.own (WRowsIn.mem (by repeat (first | exact WRowsIn.here | exact WRowsIn.last | apply WRowsIn.there | apply WRowsIn.thereS)) _ (by omega))) rfl rfl rfl) (.cons (rv_tmp rfl (by nofun)) .nil)) (by nofun) (fun w1 hw => ?_)
          first
            | ((have ho : unOk s = false := unOk_no (by first | exact unPre_no1 (by omega) | exact unPre_no2 (mk_no (by assumption)) | exact unPre_no3 (by omega) | exact unPre_no4 (by omega) | exact unPre_no5 (by assumption))); exact ⟨(none, 0), (unRes_no ho).symm, hw.below, unEnt_no ho, List.pairwise_singleton _ _⟩)
            | (obtain ⟨hj1, hj2, hj3⟩ := un_join hp9 hl9 (fun k hk => hH.2 k (by rw [hl9]; exact hk))
               first
               | (have ho : unOk s = false := hj1 (by assumption)
                  exact ⟨(none, 0), (unRes_no ho).symm, hw.below, unEnt_no ho, List.pairwise_singleton _ _⟩)
               | (have ha : allF vs (vs.length * 3) = true := by assumption
                  have ho : unOk s = false := hj2 ha hq9
                  exact ⟨(none, 0), (unRes_no ho).symm, hw.below, unEnt_no ho, List.pairwise_singleton _ _⟩)
               | (have ha : allF vs (vs.length * 3) = true := by assumption
                  obtain ⟨ho, e⟩ := hj3 ha hq9
                  refine ⟨(ar1, cr1), ?_, ?_⟩
                  · rw [unRes_yes ho, ← e]; rfl
                  · rw [unR_yes ho, ← e]; exact (hw.pick (by apply Pick.one; repeat (first | exact Rem.here | apply Rem.there))).out1))
        · skip
          replace h5 := ic_gtr' h5
          refine VL.q (.inr ⟨_, _, _, rfl, rfl, rfl⟩) rfl (by decide) (yq_load rfl fb9_UnI rfl (by first | exact Sees.root (by assumption) | exact Sees.own (by repeat (first | exact List.mem_cons_self | exact List.mem_append_left _ (by assumption) | apply List.mem_cons_of_mem | apply List.mem_append_right)) | exact Sees.root (hR _ (by omega)) | exact Sees.own (RowsIn.mem (by repeat (first | exact RowsIn.here | exact RowsIn.last | apply RowsIn.there | apply RowsIn.thereS)) _ (by omega)) | exact Sees.own (WRowsIn.mem (by repeat (first | exact WRowsIn.here | exact WRowsIn.last | apply WRowsIn.there | apply WRowsIn.thereS)) _ (by omega))) rfl) ?_
          refine VL.r (.inr ⟨_, _, _, rfl, rfl, rfl⟩) rfl (by decide) (yr_lenString rfl Try.underlying9 rfl) ?_
          refine VL.r (.inr ⟨_, _, _, rfl, rfl, rfl⟩) rfl (by decide) (yr_move rfl rfl) ?_
          refine VL.r (.inr ⟨_, _, _, rfl, rfl, rfl⟩) rfl (by decide) (yr_mulN 6 (unN s) rfl rfl rfl (by omega) (by omega) (Nat.le_trans (mul_small (by omega) (by omega)) (by decide))) ?_
          refine VL.r (.inr ⟨_, _, _, rfl, rfl, rfl⟩) rfl (by decide) (yr_int rfl rfl rfl (.inl ⟨rfl, wrap_in (by omega)⟩)) ?_
          refine VL.r (.inr ⟨_, _, _, rfl, rfl, rfl⟩) rfl (by decide) (yr_icmp rfl (.inr (.inl rfl)) rfl rfl) ?_
          refine VL.r (.inl rfl) rfl (by decide) (yr_pick_f rfl rfl rfl) ?_
          refine VL.nil ?_
          refine VE.then_wp ?_
          refine V.cond rfl (fun h7 => ?_) (fun h7 => ?_)
          · skip
            replace h7 := ic_neq h7
            refine V.seq ?_
            refine V.region ?_
            refine VL.r (.inl rfl) rfl (by decide) (yr_build rfl lay30_UnI rfl .nil (by first | (simp; done) | (simp [vv]; done) | (simp [cn, cn1, cn0]; done)) rfl) ?_
            refine VL.s (.inl rfl) rfl (yc_store rfl sz30_UnI rfl rfl (by repeat (first | exact UpdF.here | apply UpdF.there | apply UpdF.thereS)) (.inr ⟨rfl, rfl⟩) rfl (by first | exact Nat.le_of_ble_eq_true rfl | simp) (by decide) rfl) ?_
            rintro ⟨⟩
            refine VL.r (.inl rfl) rfl (by decide) (yr_assign (u := .bool false) rfl rfl) ?_
            refine VL.nil ?_
            refine VE.then_wp ?_
            refine V.ret ?_
            refine VE.then_ret ?_
            refine retN rfl (.cons (rv_cellS rfl Try.underlying30 sz30_UnI (by first | exact Sees.root (by assumption) | exact Sees.own (by repeat (first | exact List.mem_cons_self | exact List.mem_append_left _ (by assumption) | apply List.mem_cons_of_mem | apply List.mem_append_right)) | exact Sees.root (hR _ (by omega)) | exact Sees.own (RowsIn.mem (by repeat (first | exact RowsIn.here | exact RowsIn.last | apply RowsIn.there | apply RowsIn.thereS)) _ (by omega)) | exact Sees.own (WRowsIn.mem (by repeat (first | exact WRowsIn.here | exact WRowsIn.last | apply WRowsIn.there | apply WRowsIn.thereS)) _ (by omega))) rfl rfl rfl) (.cons (rv_tmp rfl (by nofun)) .nil)) (by nofun) (fun w1 hw => ?_)
            first
              | ((have ho : unOk s = false := unOk_no (by first | exact unPre_no1 (by omega) | exact unPre_no2 (mk_no (by assumption)) | exact unPre_no3 (by omega) | exact unPre_no4 (by omega) | exact unPre_no5 (by assumption))); exact ⟨(none, 0), (unRes_no ho).symm, hw.below, unEnt_no ho, List.pairwise_singleton _ _⟩)
              | (obtain ⟨hj1, hj2, hj3⟩ := un_join hp9 hl9 (fun k hk => hH.2 k (by rw [hl9]; exact hk))
                 first
                 | (have ho : unOk s = false := hj1 (by assumption)
                    exact ⟨(none, 0), (unRes_no ho).symm, hw.below, unEnt_no ho, List.pairwise_singleton _ _⟩)
                 | (have ha : allF vs (vs.length * 3) = true := by assumption
                    have ho : unOk s = false := hj2 ha hq9
                    exact ⟨(none, 0), (unRes_no ho).symm, hw.below, unEnt_no ho, List.pairwise_singleton _ _⟩)
                 | (have ha : allF vs (vs.length * 3) = true := by assumption
                    obtain ⟨ho, e⟩ := hj3 ha hq9
                    refine ⟨(ar1, cr1), ?_, ?_⟩
                    · rw [unRes_yes ho, ← e]; rfl
                    · rw [unR_yes ho, ← e]; exact (hw.pick (by apply Pick.one; repeat (first | exact Rem.here | apply Rem.there))).out1))
          · skip
            replace h7 := ic_neq' h7
            refine VX.own (fun w hw => hw.nilU 27) ?_
            refine V.skip ?_
            refine VE.then_wp ?_
            refine V.seq ?_
            refine V.region ?_
            refine VL.r (.inl rfl) rfl (by decide) (yr_func2 rfl rfl rfl) ?_
            refine VL.r (.inl rfl) rfl (by decide) (yr_assign rfl rfl) ?_
            refine VL.nil ?_
            refine VE.then_wp ?_
            refine V.seq ?_
            refine V.seq ?_
            refine V.region ?_
            refine VL.r (.inl rfl) rfl (by decide) (yr_move rfl rfl) ?_
            refine VL.r (.inl rfl) rfl (by decide) (yr_move (u := .int .i64 0) rfl rfl) ?_
            refine VL.nil ?_
            refine VE.then_wp ?_
            refine V.block ?_
            refine V.loopc (G := (List V3) × (Option Addr) × Nat) [(1, _), (2, _), (6, _), (8, _), (79, _)] (fun ⟨vs, ar1, cr1⟩ => vs.length ≤ unN s ∧ unH s vs) (fun ⟨vs, ar1, cr1⟩ => [⟨some ⟨b6, 0, none⟩, [.float .f32 (cb .f32 (rd4 s 7)), .float .f32 (cb .f32 (rd4 s 11)), .float .f32 (cb .f32 (rd4 s 15)), .float .f32 (cb .f32 (rd4 s 19)), .int .i64 (sb s 4 : Int), .int .i64 (sb s 5 : Int), .int .i64 (sb s 6 : Int), .slice ar1 vs.length cr1], 8, 30⟩, ⟨ar1, vl vs, cr1 * 3, 27⟩, ⟨some ⟨b4, 0, none⟩, [.slice ar 5 cr], 1, 86⟩, ⟨ar, fl (un5 s 5), cr * 1, 23⟩, ⟨some ⟨b1, 0, none⟩, [.string s], 1, 9⟩, ⟨some ⟨b2, 0, none⟩, [.float .f32 0, .float .f32 0, .float .f32 0, .float .f32 0, .int .i64 0, .int .i64 0, .int .i64 0, .slice none 0 0], 8, 30⟩]) (fun ⟨vs, ar1, cr1⟩ => [(80, .int .i64 (vs.length : Int))]) (fun ⟨vs, ar1, cr1⟩ => unN s - vs.length) ([], none, 0) (.cons rfl (.cons rfl (.cons rfl (.cons rfl (.cons rfl .nil))))) (.cons rfl .nil) ?_ ?_ ?_
            · exact (fun w hw => hw.pick (by apply Pick.e6; all_goals (repeat (first | exact Rem.here | apply Rem.there))))
            · exact (by exact ⟨Nat.zero_le _, unH_0⟩)
            rintro ⟨vs, ar1, cr1⟩ ⟨hl, hH⟩
            show V _ _ _ [⟨some ⟨b6, 0, none⟩, [.float .f32 (cb .f32 (rd4 s 7)), .float .f32 (cb .f32 (rd4 s 11)), .float .f32 (cb .f32 (rd4 s 15)), .float .f32 (cb .f32 (rd4 s 19)), .int .i64 (sb s 4 : Int), .int .i64 (sb s 5 : Int), .int .i64 (sb s 6 : Int), .slice ar1 vs.length cr1], 8, 30⟩, ⟨ar1, vl vs, cr1 * 3, 27⟩, ⟨some ⟨b4, 0, none⟩, [.slice ar 5 cr], 1, 86⟩, ⟨ar, fl (un5 s 5), cr * 1, 23⟩, ⟨some ⟨b1, 0, none⟩, [.string s], 1, 9⟩, ⟨some ⟨b2, 0, none⟩, [.float .f32 0, .float .f32 0, .float .f32 0, .float .f32 0, .int .i64 0, .int .i64 0, .int .i64 0, .slice none 0 0], 8, 30⟩] ([(80, .int .i64 (vs.length : Int))] ++ [(1, _), (2, _), (6, _), (8, _), (79, _)]) _ _
            refine V.seq ?_
            refine V.region ?_
            refine VL.r (.inl rfl) rfl (by decide) (yr_icmp rfl (.inr (.inr (.inl rfl))) rfl rfl) ?_
            refine VL.nil ?_
            refine VE.then_wp ?_
            refine V.seq ?_
            refine V.cond rfl (fun h8 => ?_) (fun h8 => ?_)
            · skip
              replace h8 := ic_lss h8
              refine V.skip ?_
              refine VE.then_wp ?_
              refine V.seq ?_
              refine V.block ?_
              refine V.seq ?_
              refine V.region ?_
              refine VL.r (.inl rfl) rfl (by decide) (yr_move rfl rfl) ?_
              refine VL.r (.inl rfl) rfl (by decide) (yr_assign rfl rfl) ?_
              refine VL.nil ?_
              refine VE.then_wp ?_
              refine V.seq ?_
              refine V.region ?_
              refine VL.r (.inl rfl) rfl (by decide) (yr_move rfl rfl) ?_
              refine VL.r (.inl rfl) rfl (by decide) (yr_mulN 6 vs.length rfl rfl rfl rfl rfl (by omega)) ?_
              refine VL.r (.inl rfl) rfl (by decide) (yr_addN (27 + 6 * vs.length) rfl rfl rfl (by push_cast; rfl) (by omega)) ?_
              refine VL.r (.inl rfl) rfl (by decide) (yr_assign rfl rfl) ?_
              refine VL.nil ?_
              refine VE.then_wp ?_
              refine V.draw [(0, 0), (1, 0), (2, 0), (3, 0), (5, 0), (6, 0), (7, 0), (9, 0), (10, 0), (11, 0), (4, 1), (8, 1), (12, 1), (13, 0), (14, 1), (15, 3), (16, 0), (17, 3)] mixed_UnI (by kernel_rfl) (by intro j o hj; simp at hj) ?_
              refine SW.r rfl (.inl rfl) rfl (by decide) (yr_fieldAddr rfl Try.underlying30 rfl rfl sz28_UnI (by decide) rfl) ?_
              refine SW.q rfl (.inl rfl) rfl (by decide) (yq_load rfl fb28_UnI rfl (by first | exact Sees.root (by assumption) | exact Sees.own (by repeat (first | exact List.mem_cons_self | exact List.mem_append_left _ (by assumption) | apply List.mem_cons_of_mem | apply List.mem_append_right)) | exact Sees.root (hR _ (by omega)) | exact Sees.own (RowsIn.mem (by repeat (first | exact RowsIn.here | exact RowsIn.last | apply RowsIn.there | apply RowsIn.thereS)) _ (by omega)) | exact Sees.own (WRowsIn.mem (by repeat (first | exact WRowsIn.here | exact WRowsIn.last | apply WRowsIn.there | apply WRowsIn.thereS)) _ (by omega))) rfl) ?_
              refine SW.r rfl (.inl rfl) rfl (by decide) (yr_move rfl rfl) ?_
              refine SW.r rfl (.inl rfl) rfl (by decide) (yr_move rfl rfl) ?_
              refine SW.r rfl (.inl rfl) rfl (by decide) (yr_move rfl rfl) ?_
              refine SW.r rfl (.inl rfl) rfl (by decide) (yr_move rfl rfl) ?_
              refine SW.r rfl (.inl rfl) rfl (by decide) (yr_addN (27 + 6 * vs.length + 2) rfl rfl rfl (by push_cast; rfl) (by omega)) ?_
              refine SW.r rfl (.inl rfl) rfl (by decide) (yr_move rfl rfl) ?_
              refine SW.r rfl (.inl rfl) rfl (by decide) (yr_move rfl rfl) ?_
              refine SW.r rfl (.inl rfl) rfl (by decide) (yr_addN (27 + 6 * vs.length + 4) rfl rfl rfl (by push_cast; rfl) (by omega)) ?_
              refine SW.new rfl (.inl rfl) rfl (by decide) (yn_call rfl known56_UnI rfl (.cons rfl .nil) (fun w hw => c_unOne (xs := un5 s 5) (p := 27 + 6 * vs.length) (by first | exact Sees.root (by assumption) w hw | exact Sees.own (by repeat (first | exact List.mem_cons_self | exact List.mem_append_left _ (by assumption) | apply List.mem_cons_of_mem | apply List.mem_append_right)) w hw) (by first | exact Sees.root (by assumption) w hw | exact Sees.own (by repeat (first | exact List.mem_cons_self | exact List.mem_append_left _ (by assumption) | apply List.mem_cons_of_mem | apply List.mem_append_right)) w hw) (by first | exact Sees.root (by assumption) w hw | exact Sees.own (by repeat (first | exact List.mem_cons_self | exact List.mem_append_left _ (by assumption) | apply List.mem_cons_of_mem | apply List.mem_append_right)) w hw) un5_length (by omega) (by omega))) ?_
              rintro ⟨v90, hv90⟩
              refine SW.new rfl (.inl rfl) rfl (by decide) (yn_call rfl known56_UnI rfl (.cons rfl .nil) (fun w hw => c_unOne (xs := un5 s 5) (p := 27 + 6 * vs.length + 2) (by first | exact Sees.root (by assumption) w hw | exact Sees.own (by repeat (first | exact List.mem_cons_self | exact List.mem_append_left _ (by assumption) | apply List.mem_cons_of_mem | apply List.mem_append_right)) w hw) (by first | exact Sees.root (by assumption) w hw | exact Sees.own (by repeat (first | exact List.mem_cons_self | exact List.mem_append_left _ (by assumption) | apply List.mem_cons_of_mem | apply List.mem_append_right)) w hw) (by first | exact Sees.root (by assumption) w hw | exact Sees.own (by repeat (first | exact List.mem_cons_self | exact List.mem_append_left _ (by assumption) | apply List.mem_cons_of_mem | apply List.mem_append_right)) w hw) un5_length (by omega) (by omega))) ?_
              rintro ⟨v94, hv94⟩
              refine SW.new rfl (.inl rfl) rfl (by decide) (yn_call rfl known56_UnI rfl (.cons rfl .nil) (fun w hw => c_unOne (xs := un5 s 5) (p := 27 + 6 * vs.length + 4) (by first | exact Sees.root (by assumption) w hw | exact Sees.own (by repeat (first | exact List.mem_cons_self | exact List.mem_append_left _ (by assumption) | apply List.mem_cons_of_mem | apply List.mem_append_right)) w hw) (by first | exact Sees.root (by assumption) w hw | exact Sees.own (by repeat (first | exact List.mem_cons_self | exact List.mem_append_left _ (by assumption) | apply List.mem_cons_of_mem | apply List.mem_append_right)) w hw) (by first | exact Sees.root (by assumption) w hw | exact Sees.own (by repeat (first | exact List.mem_cons_self | exact List.mem_append_left _ (by assumption) | apply List.mem_cons_of_mem | apply List.mem_append_right)) w hw) un5_length (by omega) (by omega))) ?_
              rintro ⟨v98, hv98⟩
              refine SW.r rfl (.inl rfl) rfl (by decide) (yr_build rfl lay27_UnI rfl (.cons rfl (.cons rfl (.cons rfl .nil))) (by first | (simp; done) | (simp [vv]; done) | (simp [cn, cn1, cn0]; done)) rfl) ?_
              refine SW.new1 rfl (.inl rfl) rfl (by decide) (yn_buildSlice rfl Try.underlying28 elt27_UnI rfl (by decide) (.cons rfl .nil) (by simp) rfl rfl) ?_
              intro b100
              refine SW.c rfl (.inl rfl) rfl (by decide) (yc_appendz 3 rfl rfl Try.underlying28 elt27_UnI rfl rfl (by repeat (first | exact UpdF.here | apply UpdF.there | apply UpdF.thereS)) (by first | exact Sees.root (by assumption) | exact Sees.own (by repeat (first | exact List.mem_cons_self | exact List.mem_append_left _ (by assumption) | apply List.mem_cons_of_mem | apply List.mem_append_right)) | exact Sees.root (hR _ (by omega)) | exact Sees.own (RowsIn.mem (by repeat (first | exact RowsIn.here | exact RowsIn.last | apply RowsIn.there | apply RowsIn.thereS)) _ (by omega)) | exact Sees.own (WRowsIn.mem (by repeat (first | exact WRowsIn.here | exact WRowsIn.last | apply WRowsIn.there | apply WRowsIn.thereS)) _ (by omega))) rfl (by first | (rw [fl_length, un5_length]; done) | (rw [fl_length, un5_length, Nat.mul_one]; done) | (rw [vl_length]; done)) rfl (by first | exact fl_scal _ | exact vl_scal _) rfl (by omega) (by omega)) ?_
              rintro ⟨a101, c101⟩
              refine SW.r rfl (.inl rfl) rfl (by decide) (yr_fieldAddr rfl Try.underlying30 rfl rfl sz28_UnI (by decide) rfl) ?_
              refine SW.s rfl (.inl rfl) rfl (yc_store rfl sz28_UnI rfl rfl (by repeat (first | exact UpdF.here | apply UpdF.there | apply UpdF.thereS)) (.inl ⟨rfl, rfl⟩) rfl (by first | exact Nat.le_of_ble_eq_true rfl | simp) (by decide) rfl) ?_
              rintro ⟨⟩
              refine SW.done ?_
              refine VE.block_normal ?_
              refine VE.then_wp ?_
              refine V.region ?_
              refine VL.r (.inl rfl) rfl (by decide) (yr_int rfl rfl rfl (.inl ⟨rfl, wrap_in (by omega)⟩)) ?_
              refine VL.r (.inl rfl) rfl (by decide) (yr_move rfl rfl) ?_
              refine VL.nil ?_
              refine VE.round (vs ++ [(v90, v94, v98)], a101, c101) ?_ ?_ ?_ ?_ ?_
              · exact (.cons (congrArg (fun i => some (Value.int .i64 i)) (by rw [List.length_append]; rfl)) .nil)
              · exact (.cons rfl (.cons rfl (.cons rfl (.cons rfl (.cons rfl .nil)))))
              · exact (fun w hw => by dsimp only; rw [← vl_snoc, List.length_append]; exact hw.pick (by apply Pick.e6; all_goals (repeat (first | exact Rem.here | apply Rem.there))))
              · exact ⟨by rw [List.length_append]; show vs.length + 1 ≤ unN s; omega, unH_s hH hv90 hv94 hv98 (un5_get (by decide)) (by omega) (by omega) (by omega)⟩
              · dsimp only; rw [List.length_append]; show unN s - (vs.length + 1) < unN s - vs.length; omega
            · skip
              replace h8 := ic_lss' h8
              have hl9 : vs.length = unN s := by omega
              refine V.exit ?_
              refine VE.then_exit ?_
              refine VE.then_exit ?_
              refine VE.block_here ?_
              refine VE.then_wp ?_
              refine V.seq ?_
              refine V.seq ?_
              refine V.region ?_
              refine VL.q (.inl rfl) rfl (by decide) (yq_loadS rfl Try.underlying30 sz30_UnI rfl (by first | exact Sees.root (by assumption) | exact Sees.own (by repeat (first | exact List.mem_cons_self | exact List.mem_append_left _ (by assumption) | apply List.mem_cons_of_mem | apply List.mem_append_right)) | exact Sees.root (hR _ (by omega)) | exact Sees.own (RowsIn.mem (by repeat (first | exact RowsIn.here | exact RowsIn.last | apply RowsIn.there | apply RowsIn.thereS)) _ (by omega)) | exact Sees.own (WRowsIn.mem (by repeat (first | exact WRowsIn.here | exact WRowsIn.last | apply WRowsIn.there | apply WRowsIn.thereS)) _ (by omega))) rfl rfl rfl) ?_
              refine VL.q (.inl rfl) rfl (by decide) (yq_callf rfl known57_UnI (.cons rfl .nil) (fun w hw => c_implMesh)) ?_
              refine VL.r (.inl rfl) rfl (by decide) (yr_not rfl rfl) ?_
              refine VL.nil ?_
              refine VE.then_wp ?_
              refine V.cond rfl (fun h9 => ?_) (fun h9 => ?_)
              · skip
                replace h9 := bnot_t h9
                have hms : unMs s = false := by unfold unMs; rw [← hl9]; exact h9
                refine V.seq ?_
                refine V.region ?_
                refine VL.r (.inl rfl) rfl (by decide) (yr_build rfl lay30_UnI rfl .nil (by first | (simp; done) | (simp [vv]; done) | (simp [cn, cn1, cn0]; done)) rfl) ?_
                refine VL.s (.inl rfl) rfl (yc_store rfl sz30_UnI rfl rfl (by repeat (first | exact UpdF.here | apply UpdF.there | apply UpdF.thereS)) (.inr ⟨rfl, rfl⟩) rfl (by first | exact Nat.le_of_ble_eq_true rfl | simp) (by decide) rfl) ?_
                rintro ⟨⟩
                refine VL.r (.inl rfl) rfl (by decide) (yr_assign (u := .bool false) rfl rfl) ?_
                refine VL.nil ?_
                refine VE.then_wp ?_
                refine V.ret ?_
                refine VE.then_ret ?_
                refine retN rfl (.cons (rv_cellS rfl Try.underlying30 sz30_UnI (by first | exact Sees.root (by assumption) | exact Sees.own (by repeat (first | exact List.mem_cons_self | exact List.mem_append_left _ (by assumption) | apply List.mem_cons_of_mem | apply List.mem_append_right)) | exact Sees.root (hR _ (by omega)) | exact Sees.own (RowsIn.mem (by repeat (first | exact RowsIn.here | exact RowsIn.last | apply RowsIn.there | apply RowsIn.thereS)) _ (by omega)) | exact Sees.own (WRowsIn.mem (by repeat (first | exact WRowsIn.here | exact WRowsIn.last | apply WRowsIn.there | apply WRowsIn.thereS)) _ (by omega))) rfl rfl rfl) (.cons (rv_tmp rfl (by nofun)) .nil)) (by nofun) (fun w1 hw => ?_)
                first
                  | ((have ho : unOk s = false := unOk_no (by first | exact unPre_no1 (by omega) | exact unPre_no2 (mk_no (by assumption)) | exact unPre_no3 (by omega) | exact unPre_no4 (by omega) | exact unPre_no5 (by assumption))); exact ⟨(none, 0), (unRes_no ho).symm, hw.below, unEnt_no ho, List.pairwise_singleton _ _⟩)
                  | (obtain ⟨hj1, hj2, hj3⟩ := un_join hp9 hl9 (fun k hk => hH.2 k (by rw [hl9]; exact hk))
                     first
                     | (have ho : unOk s = false := hj1 (by assumption)
                        exact ⟨(none, 0), (unRes_no ho).symm, hw.below, unEnt_no ho, List.pairwise_singleton _ _⟩)
                     | (have ha : allF vs (vs.length * 3) = true := by assumption
                        have ho : unOk s = false := hj2 ha hq9
                        exact ⟨(none, 0), (unRes_no ho).symm, hw.below, unEnt_no ho, List.pairwise_singleton _ _⟩)
                     | (have ha : allF vs (vs.length * 3) = true := by assumption
                        obtain ⟨ho, e⟩ := hj3 ha hq9
                        refine ⟨(ar1, cr1), ?_, ?_⟩
                        · rw [unRes_yes ho, ← e]; rfl
                        · rw [unR_yes ho, ← e]; exact (hw.pick (by apply Pick.one; repeat (first | exact Rem.here | apply Rem.there))).out1))
              · skip
                replace h9 := bnot_f h9
                have hms : unMs s = true := by unfold unMs; rw [← hl9]; exact h9
                have hp9 : unPre s = true := unPre_yes (by omega) hmk (by omega) (by omega) hms
                refine V.skip ?_
                refine VE.then_wp ?_
                refine V.seq ?_
                refine V.seq ?_
                refine V.region ?_
                refine VL.q (.inl rfl) rfl (by decide) (yq_loadS rfl Try.underlying30 sz30_UnI rfl (by first | exact Sees.root (by assumption) | exact Sees.own (by repeat (first | exact List.mem_cons_self | exact List.mem_append_left _ (by assumption) | apply List.mem_cons_of_mem | apply List.mem_append_right)) | exact Sees.root (hR _ (by omega)) | exact Sees.own (RowsIn.mem (by repeat (first | exact RowsIn.here | exact RowsIn.last | apply RowsIn.there | apply RowsIn.thereS)) _ (by omega)) | exact Sees.own (WRowsIn.mem (by repeat (first | exact WRowsIn.here | exact WRowsIn.last | apply WRowsIn.there | apply WRowsIn.thereS)) _ (by omega))) rfl rfl rfl) ?_
                refine VL.q (.inl rfl) rfl (by decide) (yq_callf rfl known58_UnI (.cons rfl .nil) (fun w hw => (c_implPack (by first | exact Sees.root (by assumption) w hw | exact Sees.own (by repeat (first | exact List.mem_cons_self | exact List.mem_append_left _ (by assumption) | apply List.mem_cons_of_mem | apply List.mem_append_right)) w hw) hH.1 can_unF can_unSt (by omega)))) ?_
                refine VL.r (.inl rfl) rfl (by decide) (yr_move rfl rfl) ?_
                refine VL.r (.inl rfl) rfl (by decide) (yr_extract rfl rfl rfl (by nofun)) ?_
                refine VL.r (.inl rfl) rfl (by decide) (yr_extract rfl rfl rfl (by nofun)) ?_
                refine VL.r (.inl rfl) rfl (by decide) (yr_assign rfl rfl) ?_
                refine VL.r (.inl rfl) rfl (by decide) (yr_assign rfl rfl) ?_
                refine VL.nil ?_
                refine VE.then_wp ?_
                refine V.seq ?_
                refine V.region ?_
                refine VL.r (.inl rfl) rfl (by decide) (yr_move rfl rfl) ?_
                refine VL.r (.inl rfl) rfl (by decide) (yr_not rfl rfl) ?_
                refine VL.r (.inl rfl) rfl (by decide) (yr_move rfl rfl) ?_
                refine VX.split 115 _ rfl (fun h10 => ?_) (fun h10 => ?_)
                · skip
                  replace h10 := bnot_t h10
                  refine VL.no rfl rfl rfl rfl rfl (by decide) ?_
                  refine VL.no rfl rfl rfl rfl rfl (by decide) ?_
                  refine VL.no rfl rfl rfl rfl rfl (by decide) ?_
                  refine VL.r (.inl rfl) rfl (by decide) (yr_pick_t (u := .bool true) rfl rfl rfl) ?_
                  refine VL.nil ?_
                  refine VE.then_wp ?_
                  refine V.condT rfl ?_
                  refine V.seq ?_
                  refine V.region ?_
                  refine VL.r (.inl rfl) rfl (by decide) (yr_build rfl lay30_UnI rfl .nil (by first | (simp; done) | (simp [vv]; done) | (simp [cn, cn1, cn0]; done)) rfl) ?_
                  refine VL.s (.inl rfl) rfl (yc_store rfl sz30_UnI rfl rfl (by repeat (first | exact UpdF.here | apply UpdF.there | apply UpdF.thereS)) (.inr ⟨rfl, rfl⟩) rfl (by first | exact Nat.le_of_ble_eq_true rfl | simp) (by decide) rfl) ?_
                  rintro ⟨⟩
                  refine VL.r (.inl rfl) rfl (by decide) (yr_assign (u := .bool false) rfl rfl) ?_
                  refine VL.nil ?_
                  refine VE.then_wp ?_
                  refine V.ret ?_
                  refine VE.then_ret ?_
                  refine retN rfl (.cons (rv_cellS rfl Try.underlying30 sz30_UnI (by first | exact Sees.root (by assumption) | exact Sees.own (by repeat (first | exact List.mem_cons_self | exact List.mem_append_left _ (by assumption) | apply List.mem_cons_of_mem | apply List.mem_append_right)) | exact Sees.root (hR _ (by omega)) | exact Sees.own (RowsIn.mem (by repeat (first | exact RowsIn.here | exact RowsIn.last | apply RowsIn.there | apply RowsIn.thereS)) _ (by omega)) | exact Sees.own (WRowsIn.mem (by repeat (first | exact WRowsIn.here | exact WRowsIn.last | apply WRowsIn.there | apply WRowsIn.thereS)) _ (by omega))) rfl rfl rfl) (.cons (rv_tmp rfl (by nofun)) .nil)) (by nofun) (fun w1 hw => ?_)
                  first
                    | ((have ho : unOk s = false := unOk_no (by first | exact unPre_no1 (by omega) | exact unPre_no2 (mk_no (by assumption)) | exact unPre_no3 (by omega) | exact unPre_no4 (by omega) | exact unPre_no5 (by assumption))); exact ⟨(none, 0), (unRes_no ho).symm, hw.below, unEnt_no ho, List.pairwise_singleton _ _⟩)
                    | (obtain ⟨hj1, hj2, hj3⟩ := un_join hp9 hl9 (fun k hk => hH.2 k (by rw [hl9]; exact hk))
                       first
                       | (have ho : unOk s = false := hj1 (by assumption)
                          exact ⟨(none, 0), (unRes_no ho).symm, hw.below, unEnt_no ho, List.pairwise_singleton _ _⟩)
                       | (have ha : allF vs (vs.length * 3) = true := by assumption
                          have ho : unOk s = false := hj2 ha hq9
                          exact ⟨(none, 0), (unRes_no ho).symm, hw.below, unEnt_no ho, List.pairwise_singleton _ _⟩)
                       | (have ha : allF vs (vs.length * 3) = true := by assumption
                          obtain ⟨ho, e⟩ := hj3 ha hq9
                          refine ⟨(ar1, cr1), ?_, ?_⟩
                          · rw [unRes_yes ho, ← e]; rfl
                          · rw [unR_yes ho, ← e]; exact (hw.pick (by apply Pick.one; repeat (first | exact Rem.here | apply Rem.there))).out1))
                · skip
                  replace h10 := bnot_f h10
                  refine VL.r (.inr ⟨_, _, _, rfl, rfl, rfl⟩) rfl (by decide) (yr_move rfl rfl) ?_
                  refine VL.q (.inr ⟨_, _, _, rfl, rfl, rfl⟩) rfl (by decide) (yq_load rfl fb9_UnI rfl (by first | exact Sees.root (by assumption) | exact Sees.own (by repeat (first | exact List.mem_cons_self | exact List.mem_append_left _ (by assumption) | apply List.mem_cons_of_mem | apply List.mem_append_right)) | exact Sees.root (hR _ (by omega)) | exact Sees.own (RowsIn.mem (by repeat (first | exact RowsIn.here | exact RowsIn.last | apply RowsIn.there | apply RowsIn.thereS)) _ (by omega)) | exact Sees.own (WRowsIn.mem (by repeat (first | exact WRowsIn.here | exact WRowsIn.last | apply WRowsIn.there | apply WRowsIn.thereS)) _ (by omega))) rfl) ?_
                  refine VL.r (.inr ⟨_, _, _, rfl, rfl, rfl⟩) rfl (by decide) (yr_scmp rfl rfl rfl (.inr rfl)) ?_
                  refine VL.r (.inl rfl) rfl (by decide) (yr_pick_f rfl rfl rfl) ?_
                  refine VL.nil ?_
                  refine VE.then_wp ?_
                  refine V.cond rfl (fun h12 => ?_) (fun h12 => ?_)
                  · skip
                    rw [if_pos (show allF vs (vs.length * 3) = true by assumption)] at h12
                    have hq9 := pkk_no h12
                    refine V.seq ?_
                    refine V.region ?_
                    refine VL.r (.inl rfl) rfl (by decide) (yr_build rfl lay30_UnI rfl .nil (by first | (simp; done) | (simp [vv]; done) | (simp [cn, cn1, cn0]; done)) rfl) ?_
                    refine VL.s (.inl rfl) rfl (yc_store rfl sz30_UnI rfl rfl (by repeat (first | exact UpdF.here | apply UpdF.there | apply UpdF.thereS)) (.inr ⟨rfl, rfl⟩) rfl (by first | exact Nat.le_of_ble_eq_true rfl | simp) (by decide) rfl) ?_
                    rintro ⟨⟩
                    refine VL.r (.inl rfl) rfl (by decide) (yr_assign (u := .bool false) rfl rfl) ?_
                    refine VL.nil ?_
                    refine VE.then_wp ?_
                    refine V.ret ?_
                    refine VE.then_ret ?_
                    refine retN rfl (.cons (rv_cellS rfl Try.underlying30 sz30_UnI (by first | exact Sees.root (by assumption) | exact Sees.own (by repeat (first | exact List.mem_cons_self | exact List.mem_append_left _ (by assumption) | apply List.mem_cons_of_mem | apply List.mem_append_right)) | exact Sees.root (hR _ (by omega)) | exact Sees.own (RowsIn.mem (by repeat (first | exact RowsIn.here | exact RowsIn.last | apply RowsIn.there | apply RowsIn.thereS)) _ (by omega)) | exact Sees.own (WRowsIn.mem (by repeat (first | exact WRowsIn.here | exact WRowsIn.last | apply WRowsIn.there | apply WRowsIn.thereS)) _ (by omega))) rfl rfl rfl) (.cons (rv_tmp rfl (by nofun)) .nil)) (by nofun) (fun w1 hw => ?_)
                    first
                      | ((have ho : unOk s = false := unOk_no (by first | exact unPre_no1 (by omega) | exact unPre_no2 (mk_no (by assumption)) | exact unPre_no3 (by omega) | exact unPre_no4 (by omega) | exact unPre_no5 (by assumption))); exact ⟨(none, 0), (unRes_no ho).symm, hw.below, unEnt_no ho, List.pairwise_singleton _ _⟩)
                      | (obtain ⟨hj1, hj2, hj3⟩ := un_join hp9 hl9 (fun k hk => hH.2 k (by rw [hl9]; exact hk))
                         first
                         | (have ho : unOk s = false := hj1 (by assumption)
                            exact ⟨(none, 0), (unRes_no ho).symm, hw.below, unEnt_no ho, List.pairwise_singleton _ _⟩)
                         | (have ha : allF vs (vs.length * 3) = true := by assumption
                            have ho : unOk s = false := hj2 ha hq9
                            exact ⟨(none, 0), (unRes_no ho).symm, hw.below, unEnt_no ho, List.pairwise_singleton _ _⟩)
                         | (have ha : allF vs (vs.length * 3) = true := by assumption
                            obtain ⟨ho, e⟩ := hj3 ha hq9
                            refine ⟨(ar1, cr1), ?_, ?_⟩
                            · rw [unRes_yes ho, ← e]; rfl
                            · rw [unR_yes ho, ← e]; exact (hw.pick (by apply Pick.one; repeat (first | exact Rem.here | apply Rem.there))).out1))
                  · skip
                    rw [if_pos (show allF vs (vs.length * 3) = true by assumption)] at h12
                    have hq9 := pkk_yes h12
                    refine V.skip ?_
                    refine VE.then_wp ?_
                    refine V.seq ?_
                    refine V.region ?_
                    refine VL.q (.inl rfl) rfl (by decide) (yq_loadS rfl Try.underlying30 sz30_UnI rfl (by first | exact Sees.root (by assumption) | exact Sees.own (by repeat (first | exact List.mem_cons_self | exact List.mem_append_left _ (by assumption) | apply List.mem_cons_of_mem | apply List.mem_append_right)) | exact Sees.root (hR _ (by omega)) | exact Sees.own (RowsIn.mem (by repeat (first | exact RowsIn.here | exact RowsIn.last | apply RowsIn.there | apply RowsIn.thereS)) _ (by omega)) | exact Sees.own (WRowsIn.mem (by repeat (first | exact WRowsIn.here | exact WRowsIn.last | apply WRowsIn.there | apply WRowsIn.thereS)) _ (by omega))) rfl rfl rfl) ?_
                    refine VL.s (.inl rfl) rfl (yc_store rfl sz30_UnI rfl rfl (by repeat (first | exact UpdF.here | apply UpdF.there | apply UpdF.thereS)) (.inr ⟨rfl, rfl⟩) rfl (by first | exact Nat.le_of_ble_eq_true rfl | simp) (by decide) rfl) ?_
                    rintro ⟨⟩
                    refine VL.r (.inl rfl) rfl (by decide) (yr_assign (u := .bool true) rfl rfl) ?_
                    refine VL.nil ?_
                    refine VE.then_wp ?_
                    refine V.ret ?_
                    refine retN rfl (.cons (rv_cellS rfl Try.underlying30 sz30_UnI (by first | exact Sees.root (by assumption) | exact Sees.own (by repeat (first | exact List.mem_cons_self | exact List.mem_append_left _ (by assumption) | apply List.mem_cons_of_mem | apply List.mem_append_right)) | exact Sees.root (hR _ (by omega)) | exact Sees.own (RowsIn.mem (by repeat (first | exact RowsIn.here | exact RowsIn.last | apply RowsIn.there | apply RowsIn.thereS)) _ (by omega)) | exact Sees.own (WRowsIn.mem (by repeat (first | exact WRowsIn.here | exact WRowsIn.last | apply WRowsIn.there | apply WRowsIn.thereS)) _ (by omega))) rfl rfl rfl) (.cons (rv_tmp rfl (by nofun)) .nil)) (by nofun) (fun w1 hw => ?_)
                    first
                      | ((have ho : unOk s = false := unOk_no (by first | exact unPre_no1 (by omega) | exact unPre_no2 (mk_no (by assumption)) | exact unPre_no3 (by omega) | exact unPre_no4 (by omega) | exact unPre_no5 (by assumption))); exact ⟨(none, 0), (unRes_no ho).symm, hw.below, unEnt_no ho, List.pairwise_singleton _ _⟩)
                      | (obtain ⟨hj1, hj2, hj3⟩ := un_join hp9 hl9 (fun k hk => hH.2 k (by rw [hl9]; exact hk))
                         first
                         | (have ho : unOk s = false := hj1 (by assumption)
                            exact ⟨(none, 0), (unRes_no ho).symm, hw.below, unEnt_no ho, List.pairwise_singleton _ _⟩)
                         | (have ha : allF vs (vs.length * 3) = true := by assumption
                            have ho : unOk s = false := hj2 ha hq9
                            exact ⟨(none, 0), (unRes_no ho).symm, hw.below, unEnt_no ho, List.pairwise_singleton _ _⟩)
                         | (have ha : allF vs (vs.length * 3) = true := by assumption
                            obtain ⟨ho, e⟩ := hj3 ha hq9
                            refine ⟨(ar1, cr1), ?_, ?_⟩
                            · rw [unRes_yes ho, ← e]; rfl
                            · rw [unR_yes ho, ← e]; exact (hw.pick (by apply Pick.one; repeat (first | exact Rem.here | apply Rem.there))).out1))

end Go.Proofs.Ytnommdpgmoljcaa


namespace Go.Proofs.Ytnommdpgmoljcaa
open Go.RowKit
set_option linter.unusedVariables false
set_option linter.unusedSimpArgs false
set_option maxRecDepth 20000

attribute [local irreducible] fop fcmp fconv fneg fabs List.getD sb rd4 rd2 q16 unX unOk unPre unMs allF pkL stb num part3 axis3

end Go.Proofs.Ytnommdpgmoljcaa


namespace Go.Proofs.Ytnommdpgmoljcaa
open Go.RowKit
set_option linter.unusedVariables false
set_option linter.unusedSimpArgs false
set_option maxRecDepth 20000




end Go.Proofs.Ytnommdpgmoljcaa


namespace Go.Proofs.Ytnommdpgmoljcaa
open Go.RowKit
set_option linter.unusedVariables false
set_option linter.unusedSimpArgs false
set_option maxRecDepth 20000

attribute [local irreducible] fop fcmp fconv sqrt32 fneg segF fieldS fieldI List.getD

end Go.Proofs.Ytnommdpgmoljcaa


namespace Go.Proofs.Ytnommdpgmoljcaa
open Go.RowKit
set_option linter.unusedVariables false
set_option linter.unusedSimpArgs false
set_option maxRecDepth 20000

attribute [local irreducible] fop fcmp fconv sqrt32 fneg segF fieldS fieldI List.getD unit3 dirV dirI midI stepV stepOk dirOk


end Go.Proofs.Ytnommdpgmoljcaa


namespace Go.Proofs.Ytnommdpgmoljcaa
open Go.RowKit

def stK (ws : List Wr) (p : V3) (h : Nat) : Nat → V3 × Bool
  | 0 => (p, true)
  | k + 1 => if (stK ws p h k).2 then (stepV ws (stK ws p h k).1 h, stepOk ws (stK ws p h k).1 h) else (z3, false)
section
variable {ws : List Wr} {p : V3} {h st near : Nat}
end
def hN (st n : Nat) : Nat := fop .quo .f32 st (FloatKind.f32.nearest (n : Int))
section
variable {ws : List Wr} {p : V3} {st near i : Nat}
end
section
variable {ws : List Wr} {p : V3} {st near i : Nat}
end

/-! ### checked -/
section
variable {ws : List Wr} {p : V3} {st near i : Nat}
end
end Go.Proofs.Ytnommdpgmoljcaa


namespace Go.Proofs.Ytnommdpgmoljcaa
open Go.RowKit

/-- A list of headers of wires of which the points alone are told. -/
def WH (f : Nat → Option Addr × Nat) (ws : List Wr) (us : List Value) : Prop := us.length = ws.length * 3 ∧ us.all scal = true ∧ ∀ i, i < ws.length → us[i * 3]? = some (.slice (f i).1 (ws.getD i zw).1.length (f i).2)
theorem WH.first (f : Nat → Option Addr × Nat) (ws : List Wr) : WH f ws (whd f ws) := ⟨whd_length f ws, whd_scal f ws, fun _ h => whd_get0 h⟩
theorem WH.set {f : Nat → Option Addr × Nat} {ws : List Wr} {us : List Value} {j : Nat} {v : Value} (h : WH f ws us) (hj : j % 3 ≠ 0) (hv : scal v = true) : WH f ws (us.set j v) := by
  refine ⟨by rw [List.length_set]; exact h.1, ?_, fun i hi => ?_⟩
  · rw [List.all_eq_true]
    intro x hx
    rcases List.mem_or_eq_of_mem_set hx with h1 | h1
    · exact (List.all_eq_true.1 h.2.1) x h1
    · rw [h1]; exact hv
  · rw [List.getElem?_set_ne (by omega)]
    exact h.2.2 i hi
/-! ### a line -/
section
variable {ws : List Wr} {p : V3} {st k n : Nat}
end
section
variable {ws : List Wr} {p : V3} {st : Nat} {rn : Int}
end
end Go.Proofs.Ytnommdpgmoljcaa


namespace Go.Proofs.Ytnommdpgmoljcaa
open Go.RowKit
set_option linter.unusedVariables false
set_option linter.unusedSimpArgs false
set_option maxRecDepth 20000

attribute [local irreducible] fop fcmp fconv sqrt32 fneg segF fieldS fieldI List.getD unit3 dirV dirI midI stepV stepOk dirOk stK

end Go.Proofs.Ytnommdpgmoljcaa


namespace Go.Proofs.Ytnommdpgmoljcaa
open Go.RowKit
set_option linter.unusedVariables false
set_option linter.unusedSimpArgs false
set_option maxRecDepth 20000

attribute [local irreducible] fop fcmp fconv sqrt32 fneg segF fieldS fieldI List.getD

end Go.Proofs.Ytnommdpgmoljcaa


namespace Go.Proofs.Ytnommdpgmoljcaa
open Go.RowKit
set_option linter.unusedVariables false
set_option linter.unusedSimpArgs false
set_option maxRecDepth 20000

attribute [local irreducible] fop fcmp fconv fneg fabs List.getD unOk unG unS unI unR

end Go.Proofs.Ytnommdpgmoljcaa


namespace Go.Proofs.Ytnommdpgmoljcaa
open Go.RowKit
set_option linter.unusedVariables false
set_option linter.unusedSimpArgs false
set_option maxRecDepth 20000

theorem zero30_Rd : (Try.prog.info? 30).bind (·.zero) = some (Value.agg #[Value.float .f32 0, Value.float .f32 0, Value.float .f32 0, Value.float .f32 0, Value.int .i64 0, Value.int .i64 0, Value.int .i64 0, Value.slice none 0 0]) := by kernel_rfl
theorem sz30_Rd : (Try.prog.info? 30).map (·.size) = some 8 := by kernel_rfl
theorem known26_Rd : Known Try.prog 26 := Known.mk' Try.func26 (by kernel_rfl)
theorem lay30_Rd : Lay Try.prog 30 [Value.float .f32 0, Value.float .f32 0, Value.float .f32 0, Value.float .f32 0, Value.int .i64 0, Value.int .i64 0, Value.int .i64 0, Value.slice none 0 0] [(0, 3), (3, 1), (4, 1), (5, 1), (6, 1), (7, 1)] := Lay.mk' (by kernel_rfl) (by kernel_rfl)
theorem known19_Rd : Known Try.prog 19 := Known.mk' Try.func19 (by kernel_rfl)
attribute [local irreducible] fop fcmp fconv fneg fabs List.getD unOk unG unS unI unR pkT pkOk

theorem c_implRM {w : World} {f1 f2 f3 st : Nat} {wi hi de : Int} {a : Option Addr} {c : Nat} {vs : List V3} (hA : Cl w a (vl vs)) (hX : Cans3 vs) (hf : Can3 (f1, f2, f3)) (hst : Can .f32 st) : New Try.prog 23 [.agg #[.float .f32 f1, .float .f32 f2, .float .f32 f3, .float .f32 st, .int .i64 wi, .int .i64 hi, .int .i64 de, .slice a vs.length c]] w (fun p : Option Addr × Nat => unRes (pkT (f1, f2, f3) st wi hi de vs) p) (fun p => [⟨p.1, vl (unR (pkT (f1, f2, f3) st wi hi de vs)), p.2 * 3, 27⟩]) := by
  refine New.enter Try.func23 rfl Try.ntmps23 (Nat.le_of_ble_eq_true rfl) ?_
  refine V.seq ?_
  refine V.region ?_
  refine VL.new1 (.inl rfl) rfl (by decide) (yn_box rfl rfl (.inr ⟨rfl, rfl⟩)) ?_
  intro b1
  refine VL.new1 (.inl rfl) rfl (by decide) (yn_alloc rfl zero30_Rd rfl) ?_
  intro b2
  refine VL.r (.inl rfl) rfl (by decide) (yr_assign (u := .bool false) rfl rfl) ?_
  refine VL.nil ?_
  refine VE.then_wp ?_
  refine V.seq ?_
  refine V.region ?_
  refine VL.q (.inl rfl) rfl (by decide) (yq_loadS rfl Try.underlying30 sz30_Rd rfl (by first | exact Sees.root (by assumption) | exact Sees.own (by repeat (first | exact List.mem_cons_self | exact List.mem_append_left _ (by assumption) | apply List.mem_cons_of_mem | apply List.mem_append_right)) | exact Sees.root (hR _ (by omega)) | exact Sees.own (RowsIn.mem (by repeat (first | exact RowsIn.here | exact RowsIn.last | apply RowsIn.there | apply RowsIn.thereS)) _ (by omega)) | exact Sees.own (WRowsIn.mem (by repeat (first | exact WRowsIn.here | exact WRowsIn.last | apply WRowsIn.there | apply WRowsIn.thereS)) _ (by omega))) rfl rfl rfl) ?_
  refine VL.q (.inl rfl) rfl (by decide) (yq_callf rfl known26_Rd (.cons rfl .nil) (fun w hw => (c_implPM (by first | exact Sees.root (by assumption) w hw | exact Sees.own (by repeat (first | exact List.mem_cons_self | exact List.mem_append_left _ (by assumption) | apply List.mem_cons_of_mem | apply List.mem_append_right)) w hw) hX hf hst))) ?_
  refine VL.r (.inl rfl) rfl (by decide) (yr_move rfl rfl) ?_
  refine VL.r (.inl rfl) rfl (by decide) (yr_extract rfl rfl rfl (by nofun)) ?_
  refine VL.r (.inl rfl) rfl (by decide) (yr_extract rfl rfl rfl (by nofun)) ?_
  refine VL.r (.inl rfl) rfl (by decide) (yr_assign rfl rfl) ?_
  refine VL.r (.inl rfl) rfl (by decide) (yr_assign rfl rfl) ?_
  refine VL.nil ?_
  refine VE.then_wp ?_
  refine V.seq ?_
  refine V.seq ?_
  refine V.region ?_
  refine VL.r (.inl rfl) rfl (by decide) (yr_move rfl rfl) ?_
  refine VL.r (.inl rfl) rfl (by decide) (yr_not rfl rfl) ?_
  refine VL.nil ?_
  refine VE.then_wp ?_
  refine V.cond rfl (fun h1 => ?_) (fun h1 => ?_)
  · skip
    replace h1 := bnot_t h1
    refine V.seq ?_
    refine V.region ?_
    refine VL.r (.inl rfl) rfl (by decide) (yr_build rfl lay30_Rd rfl .nil (by first | (simp; done) | (simp [vv]; done) | (simp [cn, cn1, cn0]; done)) rfl) ?_
    refine VL.s (.inl rfl) rfl (yc_store rfl sz30_Rd rfl rfl (by repeat (first | exact UpdF.here | apply UpdF.there | apply UpdF.thereS)) (.inr ⟨rfl, rfl⟩) rfl (by first | exact Nat.le_of_ble_eq_true rfl | simp) (by decide) rfl) ?_
    rintro ⟨⟩
    refine VL.r (.inl rfl) rfl (by decide) (yr_assign (u := .bool false) rfl rfl) ?_
    refine VL.nil ?_
    refine VE.then_wp ?_
    refine V.ret ?_
    refine VE.then_ret ?_
    refine retN rfl (.cons (rv_cellS rfl Try.underlying30 sz30_Rd (by first | exact Sees.root (by assumption) | exact Sees.own (by repeat (first | exact List.mem_cons_self | exact List.mem_append_left _ (by assumption) | apply List.mem_cons_of_mem | apply List.mem_append_right)) | exact Sees.root (hR _ (by omega)) | exact Sees.own (RowsIn.mem (by repeat (first | exact RowsIn.here | exact RowsIn.last | apply RowsIn.there | apply RowsIn.thereS)) _ (by omega)) | exact Sees.own (WRowsIn.mem (by repeat (first | exact WRowsIn.here | exact WRowsIn.last | apply WRowsIn.there | apply WRowsIn.thereS)) _ (by omega))) rfl rfl rfl) (.cons (rv_tmp rfl (by nofun)) .nil)) (by nofun) (fun w1 hw => ?_)
    first
      | (have hs : pkOk (f1, f2, f3) st wi hi de vs = false := by assumption
         have hT : pkT (f1, f2, f3) st wi hi de vs = ⟨#[]⟩ := pkT_no hs
         have ho : unOk (pkT (f1, f2, f3) st wi hi de vs) = false := by rw [hT]; exact unOk_no0
         exact ⟨(none, 0), (unRes_no ho).symm, hw.below, unEnt_no ho, List.pairwise_singleton _ _⟩)
      | exact ⟨(a15, c15), rfl, (hw.pick (by apply Pick.one; repeat (first | exact Rem.here | apply Rem.there))).out1⟩
  · skip
    replace h1 := bnot_f h1
    refine V.skip ?_
    refine VE.then_wp ?_
    refine V.seq ?_
    refine V.region ?_
    refine VL.r (.inl rfl) rfl (by decide) (yr_move rfl rfl) ?_
    refine VL.new1 (.inl rfl) rfl (by decide) (yn_callf rfl known19_Rd (.cons rfl .nil) (fun w hw => (c_implUn pkT_size))) ?_
    rintro ⟨a15, c15⟩
    refine VL.r (.inl rfl) rfl (by decide) (yr_extract rfl rfl rfl (by nofun)) ?_
    refine VL.r (.inl rfl) rfl (by decide) (yr_extract rfl rfl rfl (by nofun)) ?_
    refine VL.s (.inl rfl) rfl (yc_store rfl sz30_Rd rfl rfl (by repeat (first | exact UpdF.here | apply UpdF.there | apply UpdF.thereS)) (.inr ⟨rfl, rfl⟩) rfl (by first | exact Nat.le_of_ble_eq_true rfl | simp) (by decide) rfl) ?_
    rintro ⟨⟩
    refine VL.r (.inl rfl) rfl (by decide) (yr_assign rfl rfl) ?_
    refine VL.nil ?_
    refine VE.then_wp ?_
    refine V.ret ?_
    refine retN rfl (.cons (rv_cellS rfl Try.underlying30 sz30_Rd (by first | exact Sees.root (by assumption) | exact Sees.own (by repeat (first | exact List.mem_cons_self | exact List.mem_append_left _ (by assumption) | apply List.mem_cons_of_mem | apply List.mem_append_right)) | exact Sees.root (hR _ (by omega)) | exact Sees.own (RowsIn.mem (by repeat (first | exact RowsIn.here | exact RowsIn.last | apply RowsIn.there | apply RowsIn.thereS)) _ (by omega)) | exact Sees.own (WRowsIn.mem (by repeat (first | exact WRowsIn.here | exact WRowsIn.last | apply WRowsIn.there | apply WRowsIn.thereS)) _ (by omega))) rfl rfl rfl) (.cons (rv_tmp rfl (by nofun)) .nil)) (by nofun) (fun w1 hw => ?_)
    first
      | (have hs : pkOk (f1, f2, f3) st wi hi de vs = false := by assumption
         have hT : pkT (f1, f2, f3) st wi hi de vs = ⟨#[]⟩ := pkT_no hs
         have ho : unOk (pkT (f1, f2, f3) st wi hi de vs) = false := by rw [hT]; exact unOk_no0
         exact ⟨(none, 0), (unRes_no ho).symm, hw.below, unEnt_no ho, List.pairwise_singleton _ _⟩)
      | exact ⟨(a15, c15), rfl, (hw.pick (by apply Pick.one; repeat (first | exact Rem.here | apply Rem.there))).out1⟩

end Go.Proofs.Ytnommdpgmoljcaa


namespace Go.Proofs.Ytnommdpgmoljcaa
open Go.RowKit
set_option linter.unusedVariables false
set_option linter.unusedSimpArgs false
set_option maxRecDepth 20000

theorem ext129_SameN : ExtF Try.prog 129 Extern.MathFloatBits.float64bits := ⟨_, Try.func129, by kernel_rfl, by kernel_rfl, by kernel_rfl, by kernel_rfl⟩
theorem known102_SameN : Known Try.prog 102 := Known.mk' Try.func102 (by kernel_rfl)

theorem c_Signbit {w : World} {x : Nat} (hx : fnan .f64 x = false) : Pure Try.prog 102 [.float .f64 x] w (.bool (neg64 x)) := by
  refine Pure.enter Try.func102 rfl Try.ntmps102 (Nat.le_of_ble_eq_true rfl) ?_
  refine V.seq ?_
  refine V.region ?_
  refine VL.r (.inl rfl) rfl (by decide) (yr_assign (u := .bool false) rfl rfl) ?_
  refine VL.nil ?_
  refine VE.then_wp ?_
  refine V.seq ?_
  refine V.region ?_
  refine VL.r (.inl rfl) rfl (by decide) (yr_move rfl rfl) ?_
  refine VL.q (.inl rfl) rfl (by decide) (yq_ext rfl ext129_SameN (.cons rfl .nil) (fun vs w h => ext_bits64 vs w (by assumption) h)) ?_
  refine VL.r (.inl rfl) rfl (by decide) (yr_intConv rfl Try.underlying121 Try.underlying2 rfl rfl) ?_
  refine VL.r (.inl rfl) rfl (by decide) (yr_icmp rfl (.inr (.inr (.inl rfl))) rfl rfl) ?_
  refine VL.r (.inl rfl) rfl (by decide) (yr_assign rfl rfl) ?_
  refine VL.nil ?_
  refine VE.then_wp ?_
  refine V.ret ?_
  refine ret1 rfl rfl (fun w1 hw => ?_)
  exact ⟨rfl, hw.below⟩

theorem c_SameNumber {w : World} {x y : Nat} (hx : Can .f32 x) (hy : Can .f32 y) : Pure Try.prog 65 [.float .f32 x, .float .f32 y] w (.bool (x == y)) := by
  refine Pure.enter Try.func65 rfl Try.ntmps65 (Nat.le_of_ble_eq_true rfl) ?_
  refine V.seq ?_
  refine V.region ?_
  refine VL.r (.inl rfl) rfl (by decide) (yr_assign (u := .bool false) rfl rfl) ?_
  refine VL.nil ?_
  refine VE.then_wp ?_
  refine V.seq ?_
  refine V.seq ?_
  refine V.region ?_
  refine VL.r (.inl rfl) rfl (by decide) (yr_move rfl rfl) ?_
  refine VL.r (.inl rfl) rfl (by decide) (yr_move rfl rfl) ?_
  refine VL.r (.inl rfl) rfl (by decide) (yr_fcmp rfl (.inr (.inl rfl)) rfl rfl) ?_
  refine VL.r (.inl rfl) rfl (by decide) (yr_move rfl rfl) ?_
  refine VX.split 8 _ rfl (fun h1 => ?_) (fun h1 => ?_)
  · skip
    refine VL.no rfl rfl rfl rfl rfl (by decide) ?_
    refine VL.no rfl rfl rfl rfl rfl (by decide) ?_
    refine VL.no rfl rfl rfl rfl rfl (by decide) ?_
    refine VL.r (.inl rfl) rfl (by decide) (yr_pick_t (u := .bool true) rfl rfl rfl) ?_
    refine VL.nil ?_
    refine VE.then_wp ?_
    refine V.condT rfl ?_
    refine V.seq ?_
    refine V.region ?_
    refine VL.r (.inl rfl) rfl (by decide) (yr_move rfl rfl) ?_
    refine VL.r (.inl rfl) rfl (by decide) (yr_move rfl rfl) ?_
    refine VL.r (.inl rfl) rfl (by decide) (yr_fcmp rfl (.inr (.inl rfl)) rfl rfl) ?_
    refine VL.r (.inl rfl) rfl (by decide) (yr_move rfl rfl) ?_
    refine VX.split 16 _ rfl (fun h3 => ?_) (fun h3 => ?_)
    · skip
      refine VL.r (.inr ⟨_, _, _, rfl, rfl, rfl⟩) rfl (by decide) (yr_move rfl rfl) ?_
      refine VL.r (.inr ⟨_, _, _, rfl, rfl, rfl⟩) rfl (by decide) (yr_move rfl rfl) ?_
      refine VL.r (.inr ⟨_, _, _, rfl, rfl, rfl⟩) rfl (by decide) (yr_fcmp rfl (.inr (.inl rfl)) rfl rfl) ?_
      refine VL.r (.inl rfl) rfl (by decide) (yr_pick_t rfl rfl rfl) ?_
      refine VL.r (.inl rfl) rfl (by decide) (yr_assign rfl rfl) ?_
      refine VL.nil ?_
      refine VE.then_wp ?_
      refine V.ret ?_
      refine VE.then_ret ?_
      refine ret1 rfl rfl (fun w1 hw => ?_)
      refine ⟨congrArg Value.bool ?_, hw.below⟩
      simp only [fne_self] at *
      first
        | exact same_nanx hx hy (by assumption)
        | (exfalso; simp_all; done)
        | exact (same_nany (by assumption) (by assumption)).symm
        | exact (same_number hx hy (by assumption) (by assumption) ▸ by simp only [*, Bool.true_and, Bool.false_and, bcmp])
        | (have key := same_number hx hy (by assumption) (by assumption); simp only [*, Bool.true_and, Bool.false_and] at key; first | exact key | (rw [← key]; rfl))
    · skip
      refine VL.no rfl rfl rfl rfl rfl (by decide) ?_
      refine VL.no rfl rfl rfl rfl rfl (by decide) ?_
      refine VL.no rfl rfl rfl rfl rfl (by decide) ?_
      refine VL.r (.inl rfl) rfl (by decide) (yr_pick_f (u := .bool false) rfl rfl rfl) ?_
      refine VL.r (.inl rfl) rfl (by decide) (yr_assign rfl rfl) ?_
      refine VL.nil ?_
      refine VE.then_wp ?_
      refine V.ret ?_
      refine VE.then_ret ?_
      refine ret1 rfl rfl (fun w1 hw => ?_)
      refine ⟨congrArg Value.bool ?_, hw.below⟩
      simp only [fne_self] at *
      first
        | exact same_nanx hx hy (by assumption)
        | (exfalso; simp_all; done)
        | exact (same_nany (by assumption) (by assumption)).symm
        | exact (same_number hx hy (by assumption) (by assumption) ▸ by simp only [*, Bool.true_and, Bool.false_and, bcmp])
        | (have key := same_number hx hy (by assumption) (by assumption); simp only [*, Bool.true_and, Bool.false_and] at key; first | exact key | (rw [← key]; rfl))
  · skip
    refine VL.r (.inr ⟨_, _, _, rfl, rfl, rfl⟩) rfl (by decide) (yr_move rfl rfl) ?_
    refine VL.r (.inr ⟨_, _, _, rfl, rfl, rfl⟩) rfl (by decide) (yr_move rfl rfl) ?_
    refine VL.r (.inr ⟨_, _, _, rfl, rfl, rfl⟩) rfl (by decide) (yr_fcmp rfl (.inr (.inl rfl)) rfl rfl) ?_
    refine VL.r (.inl rfl) rfl (by decide) (yr_pick_f rfl rfl rfl) ?_
    refine VL.nil ?_
    refine VE.then_wp ?_
    refine V.cond rfl (fun h4 => ?_) (fun h4 => ?_)
    · skip
      refine V.seq ?_
      refine V.region ?_
      refine VL.r (.inl rfl) rfl (by decide) (yr_move rfl rfl) ?_
      refine VL.r (.inl rfl) rfl (by decide) (yr_move rfl rfl) ?_
      refine VL.r (.inl rfl) rfl (by decide) (yr_fcmp rfl (.inr (.inl rfl)) rfl rfl) ?_
      refine VL.r (.inl rfl) rfl (by decide) (yr_move rfl rfl) ?_
      refine VX.split 16 _ rfl (fun h5 => ?_) (fun h5 => ?_)
      · skip
        refine VL.r (.inr ⟨_, _, _, rfl, rfl, rfl⟩) rfl (by decide) (yr_move rfl rfl) ?_
        refine VL.r (.inr ⟨_, _, _, rfl, rfl, rfl⟩) rfl (by decide) (yr_move rfl rfl) ?_
        refine VL.r (.inr ⟨_, _, _, rfl, rfl, rfl⟩) rfl (by decide) (yr_fcmp rfl (.inr (.inl rfl)) rfl rfl) ?_
        refine VL.r (.inl rfl) rfl (by decide) (yr_pick_t rfl rfl rfl) ?_
        refine VL.r (.inl rfl) rfl (by decide) (yr_assign rfl rfl) ?_
        refine VL.nil ?_
        refine VE.then_wp ?_
        refine V.ret ?_
        refine VE.then_ret ?_
        refine ret1 rfl rfl (fun w1 hw => ?_)
        refine ⟨congrArg Value.bool ?_, hw.below⟩
        simp only [fne_self] at *
        first
          | exact same_nanx hx hy (by assumption)
          | (exfalso; simp_all; done)
          | exact (same_nany (by assumption) (by assumption)).symm
          | exact (same_number hx hy (by assumption) (by assumption) ▸ by simp only [*, Bool.true_and, Bool.false_and, bcmp])
          | (have key := same_number hx hy (by assumption) (by assumption); simp only [*, Bool.true_and, Bool.false_and] at key; first | exact key | (rw [← key]; rfl))
      · skip
        refine VL.no rfl rfl rfl rfl rfl (by decide) ?_
        refine VL.no rfl rfl rfl rfl rfl (by decide) ?_
        refine VL.no rfl rfl rfl rfl rfl (by decide) ?_
        refine VL.r (.inl rfl) rfl (by decide) (yr_pick_f (u := .bool false) rfl rfl rfl) ?_
        refine VL.r (.inl rfl) rfl (by decide) (yr_assign rfl rfl) ?_
        refine VL.nil ?_
        refine VE.then_wp ?_
        refine V.ret ?_
        refine VE.then_ret ?_
        refine ret1 rfl rfl (fun w1 hw => ?_)
        refine ⟨congrArg Value.bool ?_, hw.below⟩
        simp only [fne_self] at *
        first
          | exact same_nanx hx hy (by assumption)
          | (exfalso; simp_all; done)
          | exact (same_nany (by assumption) (by assumption)).symm
          | exact (same_number hx hy (by assumption) (by assumption) ▸ by simp only [*, Bool.true_and, Bool.false_and, bcmp])
          | (have key := same_number hx hy (by assumption) (by assumption); simp only [*, Bool.true_and, Bool.false_and] at key; first | exact key | (rw [← key]; rfl))
    · skip
      refine V.skip ?_
      refine VE.then_wp ?_
      refine V.seq ?_
      refine V.region ?_
      refine VL.r (.inl rfl) rfl (by decide) (yr_move rfl rfl) ?_
      refine VL.r (.inl rfl) rfl (by decide) (yr_move rfl rfl) ?_
      refine VL.r (.inl rfl) rfl (by decide) (yr_fcmp rfl (.inl rfl) rfl rfl) ?_
      refine VL.r (.inl rfl) rfl (by decide) (yr_move rfl rfl) ?_
      refine VX.split 24 _ rfl (fun h6 => ?_) (fun h6 => ?_)
      · skip
        refine VL.r (.inr ⟨_, _, _, rfl, rfl, rfl⟩) rfl (by decide) (yr_move rfl rfl) ?_
        refine VL.r (.inr ⟨_, _, _, rfl, rfl, rfl⟩) rfl (by decide) (yr_fconv rfl Try.underlying23 Try.underlying56 (by decide) rfl (fover_up _)) ?_
        refine VL.q (.inr ⟨_, _, _, rfl, rfl, rfl⟩) rfl (by decide) (yq_callf rfl known102_SameN (.cons rfl .nil) (fun w hw => (c_Signbit (fnan_up' (by assumption))))) ?_
        refine VL.r (.inr ⟨_, _, _, rfl, rfl, rfl⟩) rfl (by decide) (yr_move rfl rfl) ?_
        refine VL.r (.inr ⟨_, _, _, rfl, rfl, rfl⟩) rfl (by decide) (yr_fconv rfl Try.underlying23 Try.underlying56 (by decide) rfl (fover_up _)) ?_
        refine VL.q (.inr ⟨_, _, _, rfl, rfl, rfl⟩) rfl (by decide) (yq_callf rfl known102_SameN (.cons rfl .nil) (fun w hw => (c_Signbit (fnan_up' (by assumption))))) ?_
        refine VL.r (.inr ⟨_, _, _, rfl, rfl, rfl⟩) rfl (by decide) (yr_bcmp rfl Try.underlying4 rfl rfl (.inl rfl)) ?_
        refine VL.r (.inl rfl) rfl (by decide) (yr_pick_t rfl rfl rfl) ?_
        refine VL.r (.inl rfl) rfl (by decide) (yr_assign rfl rfl) ?_
        refine VL.nil ?_
        refine VE.then_wp ?_
        refine V.ret ?_
        refine ret1 rfl rfl (fun w1 hw => ?_)
        refine ⟨congrArg Value.bool ?_, hw.below⟩
        simp only [fne_self] at *
        first
          | exact same_nanx hx hy (by assumption)
          | (exfalso; simp_all; done)
          | exact (same_nany (by assumption) (by assumption)).symm
          | exact (same_number hx hy (by assumption) (by assumption) ▸ by simp only [*, Bool.true_and, Bool.false_and, bcmp])
          | (have key := same_number hx hy (by assumption) (by assumption); simp only [*, Bool.true_and, Bool.false_and] at key; first | exact key | (rw [← key]; rfl))
      · skip
        refine VL.no rfl rfl rfl rfl rfl (by decide) ?_
        refine VL.no rfl rfl rfl rfl rfl (by decide) ?_
        refine VL.no rfl rfl rfl rfl rfl (by decide) ?_
        refine VL.no rfl rfl rfl rfl rfl (by decide) ?_
        refine VL.no rfl rfl rfl rfl rfl (by decide) ?_
        refine VL.no rfl rfl rfl rfl rfl (by decide) ?_
        refine VL.no rfl rfl rfl rfl rfl (by decide) ?_
        refine VL.r (.inl rfl) rfl (by decide) (yr_pick_f (u := .bool false) rfl rfl rfl) ?_
        refine VL.r (.inl rfl) rfl (by decide) (yr_assign rfl rfl) ?_
        refine VL.nil ?_
        refine VE.then_wp ?_
        refine V.ret ?_
        refine ret1 rfl rfl (fun w1 hw => ?_)
        refine ⟨congrArg Value.bool ?_, hw.below⟩
        simp only [fne_self] at *
        first
          | exact same_nanx hx hy (by assumption)
          | (exfalso; simp_all; done)
          | exact (same_nany (by assumption) (by assumption)).symm
          | exact (same_number hx hy (by assumption) (by assumption) ▸ by simp only [*, Bool.true_and, Bool.false_and, bcmp])
          | (have key := same_number hx hy (by assumption) (by assumption); simp only [*, Bool.true_and, Bool.false_and] at key; first | exact key | (rw [← key]; rfl))

end Go.Proofs.Ytnommdpgmoljcaa


namespace Go.Proofs.Ytnommdpgmoljcaa
open Go.RowKit
def Mx (ks : Nat → Nat) : Nat → Nat
  | 0 => 0
  | k + 1 => maxn (Mx ks k) (dst (ks k))
theorem dst_le {k : Nat} (h : k < 17) : dst k ≤ 8 := by unfold dst; split <;> omega
section
variable {ks : Nat → Nat} {n M : Nat} {vs us : List V3}
theorem Mx_le8 : ∀ k, (∀ j, j < k → ks j < 17) → Mx ks k ≤ 8
  | 0, _ => Nat.zero_le _
  | k + 1, h => maxn_le (Mx_le8 k fun j hj => h j (by omega)) (dst_le (h k (by omega)))
theorem dst_le_Mx : ∀ k j, j < k → dst (ks j) ≤ Mx ks k
  | k + 1, j, h => by
    rw [Mx]
    have h2 := le_maxn (Mx ks k) (dst (ks k))
    rcases Nat.lt_or_eq_of_le (Nat.le_of_lt_succ h) with hj | rfl
    · have := dst_le_Mx k j hj; omega
    · omega
theorem Mx_mono : ∀ {k m}, k ≤ m → Mx ks k ≤ Mx ks m
  | k, m, h => by
    induction m with
    | zero => rw [Nat.le_zero.1 h]; exact Nat.le_refl _
    | succ m ih =>
      rcases Nat.lt_or_eq_of_le h with h2 | rfl
      · exact Nat.le_trans (ih (by omega)) (by rw [Mx]; exact (le_maxn _ _).1)
      · exact Nat.le_refl _
theorem tb1_use {m k : Nat} (hm : m ≤ 8) (hk : k < 17) : scN (qw (8 + m)) (qw k) = qw (8 + maxn m (dst k)) := by
  have := tb1_all ⟨m, by omega⟩ ⟨k, hk⟩
  unfold tb1 at this; exact beq_iff_eq.1 this
theorem tb2_use {m i k : Nat} (hm : m ≤ 8) (hi : i ≤ m) (hk : k < 17) (hd : dst k ≤ m) : scN (rvw m (8 + i)) (rvw m k) = rvw m (8 + maxn i (dst k)) := by
  have := tb2_all ⟨m, by omega⟩ ⟨i, by omega⟩ ⟨k, hk⟩
  unfold tb2 at this
  rw [decide_eq_false (show ¬ m < i by omega), decide_eq_false (show ¬ m < dst k by omega)] at this
  exact beq_iff_eq.1 this
theorem tb3_use {m k : Nat} (hm : m ≤ 8) (hk : k < 17) (hd : dst k ≤ m) : fin (rvw m k) = true ∧ qz (qw (8 + m)) (rvw m k) = qz (qw (8 + m)) (qw k) ∧ fcmp .gtr .f64 (gap64 (up (fop .sub .f32 (qw k) (rvw m k))) 0) (fop .quo .f64 (up (qw (8 + m))) 4674736138332667904) = false ∧ fnan .f64 (gap64 (up (fop .sub .f32 (qw k) (rvw m k))) 0) = false ∧ fnan .f64 (fop .sub .f64 (up (fop .sub .f32 (qw k) (rvw m k))) 0) = false ∧ fnan .f64 (fop .sub .f64 0 (up (fop .sub .f32 (qw k) (rvw m k)))) = false := by
  have := tb3_all ⟨m, by omega⟩ ⟨k, hk⟩
  unfold tb3 at this
  rw [decide_eq_false (show ¬ m < dst k by omega)] at this
  simp only [Bool.false_or, Bool.and_eq_true, Bool.not_eq_true', beq_iff_eq] at this
  exact ⟨this.1.1.1.1.1, this.1.1.1.1.2, this.1.1.1.2, this.1.1.2, this.1.2, this.2⟩
theorem tb4_use {m : Nat} (hm : m ≤ 8) : rvw m (8 + m) = qw (8 + m) ∧ rvw m 8 = 0 ∧ fnan .f64 (up (qw (8 + m))) = false := by
  have := tb4_all ⟨m, by omega⟩
  unfold tb4 at this
  simp only [Bool.and_eq_true, Bool.not_eq_true', beq_iff_eq] at this
  exact ⟨this.1.1, this.1.2, this.2⟩
theorem tb5_use {k : Nat} (hk : k < 17) : fin (qw k) = true ∧ fnan .f64 (gap64 (up (qw k)) 0) = false ∧ fnan .f64 (fop .sub .f64 (up (qw k)) 0) = false ∧ fnan .f64 (fop .sub .f64 0 (up (qw k))) = false := by
  have := tb5_all ⟨k, hk⟩
  unfold tb5 at this
  simp only [Bool.and_eq_true, Bool.not_eq_true'] at this
  exact ⟨this.1.1.1, this.1.1.2, this.1.2, this.2⟩
theorem tb6_use {m k : Nat} (hm : m ≤ 8) (hk : k < 17) : fmx .f64 (up (qw (8 + m))) (gap64 (up (qw k)) 0) = up (qw (8 + maxn m (dst k))) := by
  have := tb6_all ⟨m, by omega⟩ ⟨k, hk⟩
  unfold tb6 at this; exact beq_iff_eq.1 this
/-- The numbers are the quarters ks. -/
def Qs (vs : List V3) (ks : Nat → Nat) (n : Nat) : Prop := ∀ j, j < n → ks j < 17 ∧ num vs j = qw (ks j)
theorem rnd_sc : ∀ k, Qs vs ks k → scU vs k = qw (8 + Mx ks k) ∧ allF vs k = true
  | 0, _ => ⟨qw8.symm, rfl⟩
  | k + 1, h => by
    obtain ⟨h1, h2⟩ := rnd_sc k fun j hj => h j (by omega)
    obtain ⟨g1, g2⟩ := h k (by omega)
    rw [scU, allF, h1, h2, g2, (tb5_use g1).1, tb1_use (Mx_le8 k fun j hj => (h j (by omega)).1) g1]
    exact ⟨rfl, rfl⟩
theorem rnd_scR (hM : M ≤ 8) : ∀ k, (∀ j, j < k → ks j < 17 ∧ dst (ks j) ≤ M ∧ num us j = rvw M (ks j)) → Mx ks k ≤ M → scU us k = rvw M (8 + Mx ks k) ∧ allF us k = true
  | 0, _, _ => ⟨(tb4_use hM).2.1.symm, rfl⟩
  | k + 1, h, hm => by
    have hk : Mx ks k ≤ M := Nat.le_trans (Mx_mono (Nat.le_succ k)) hm
    obtain ⟨h1, h2⟩ := rnd_scR hM k (fun j hj => h j (by omega)) hk
    obtain ⟨g1, g2, g3⟩ := h k (by omega)
    rw [scU, allF, h1, h2, g3, (tb3_use hM g1 g2).1, tb2_use hM hk g1 g2]
    exact ⟨rfl, rfl⟩
theorem body_congr {S : Nat} : ∀ k, (∀ j, j < k → qz S (num us j) = qz S (num vs j)) → bodyU us S k = bodyU vs S k
  | 0, _ => rfl
  | k + 1, h => by rw [bodyU, bodyU, body_congr k fun j hj => h j (by omega), h k (by omega)]
theorem rnd_pk {f : V3} {st : Nat} {wi hi de : Int} (hl : us.length = vs.length) (hv : Qs vs ks (vs.length * 3)) (hu : ∀ j, j < vs.length * 3 → num us j = rvw (Mx ks (vs.length * 3)) (ks j)) :
    pkL f st wi hi de us = pkL f st wi hi de vs ∧ allF us (vs.length * 3) = true := by
  have hM := Mx_le8 (ks := ks) (vs.length * 3) fun j hj => (hv j hj).1
  obtain ⟨a1, a2⟩ := rnd_sc _ hv
  obtain ⟨b1, b2⟩ := rnd_scR (us := us) hM (vs.length * 3) (fun j hj => ⟨(hv j hj).1, dst_le_Mx _ j hj, hu j hj⟩) (Nat.le_refl _)
  refine ⟨?_, b2⟩
  unfold pkL
  rw [hl, b1, a1, (tb4_use hM).1]
  rw [body_congr (us := us) (vs := vs) (vs.length * 3)]
  intro j hj
  rw [hu j hj, (hv j hj).2]
  exact (tb3_use hM (hv j hj).1 (dst_le_Mx _ j hj)).2.1
end
/-! ### what the text says -/
section
variable {f : V3} {st : Nat} {W H D : Nat} {vs : List V3}
theorem rd_four {L : List Int} {p x : Nat} (hx : x < 4294967296) (hp : p + 4 ≤ L.length) (h : ∀ j, j < 4 → L.getD (p + j) 0 = (four x).getD j 0) : rd4 (stb L) p = x := by
  unfold rd4
  rw [sb_stb (by omega), sb_stb (by omega), sb_stb (by omega), sb_stb (by omega)]
  have e0 := h 0 (by decide)
  have e1 := h 1 (by decide)
  have e2 := h 2 (by decide)
  have e3 := h 3 (by decide)
  simp only [Nat.add_zero] at e0
  rw [e0, e1, e2, e3]
  show (w8 (x : Int)).toNat % 256 + (w8 ((x / 256 : Nat) : Int)).toNat % 256 * 256 + (w8 ((x / 65536 : Nat) : Int)).toNat % 256 * 65536 + (w8 ((x / 16777216 : Nat) : Int)).toNat % 256 * 16777216 = x
  rw [w8_nat, w8_nat, w8_nat, w8_nat]
  omega
theorem top_at {wi hi de : Int} {i : Nat} (h : i < 27) : (pkL f st wi hi de vs).getD i 0 = (topL f st wi hi de (scU vs (vs.length * 3))).getD i 0 := by
  unfold pkL; exact getD_app' (by rw [topL_length]; exact h)
theorem top_rd (hf : Can3 f) (hst : Can .f32 st) {wi hi de : Int} : rd4 (stb (pkL f st wi hi de vs)) 7 = f.1 ∧ rd4 (stb (pkL f st wi hi de vs)) 11 = f.2.1 ∧ rd4 (stb (pkL f st wi hi de vs)) 15 = f.2.2 ∧ rd4 (stb (pkL f st wi hi de vs)) 19 = st := by
  have hl := pkL_length (f := f) (st := st) (wi := wi) (hi := hi) (de := de) (vs := vs)
  have c4 : ∀ j, j < 4 → j = 0 ∨ j = 1 ∨ j = 2 ∨ j = 3 := fun j hj => by omega
  refine ⟨rd_four (Nat.lt_of_lt_of_le hf.1.lt (by decide)) (by omega) fun j hj => ?_, rd_four (Nat.lt_of_lt_of_le hf.2.1.lt (by decide)) (by omega) fun j hj => ?_, rd_four (Nat.lt_of_lt_of_le hf.2.2.lt (by decide)) (by omega) fun j hj => ?_, rd_four (Nat.lt_of_lt_of_le hst.lt (by decide)) (by omega) fun j hj => ?_⟩ <;>
  · rw [top_at (by omega)]
    rcases c4 j hj with rfl | rfl | rfl | rfl <;> rfl
theorem top_sz (hW : W < 256) (hH : H < 256) (hD : D < 256) : sb (stb (pkL f st (W : Int) (H : Int) (D : Int) vs)) 4 = W ∧ sb (stb (pkL f st (W : Int) (H : Int) (D : Int) vs)) 5 = H ∧ sb (stb (pkL f st (W : Int) (H : Int) (D : Int) vs)) 6 = D := by
  have hl := pkL_length (f := f) (st := st) (wi := (W : Int)) (hi := (H : Int)) (de := (D : Int)) (vs := vs)
  have g : ∀ (i n : Nat), i < 27 → n < 256 → (topL f st (W : Int) (H : Int) (D : Int) (scU vs (vs.length * 3))).getD i 0 = w8 (n : Int) → sb (stb (pkL f st (W : Int) (H : Int) (D : Int) vs)) i = n := by
    intro i n hi hn h
    rw [sb_stb (by omega), top_at hi, h, w8_nat]
    omega
  exact ⟨g 4 W (by decide) hW rfl, g 5 H (by decide) hH rfl, g 6 D (by decide) hD rfl⟩
theorem toList_eq_of {a b : ByteArray} (hs : a.size = b.size) (h : ∀ i, i < a.size → sb a i = sb b i) : a = b := by
  obtain ⟨⟨l⟩⟩ := a; obtain ⟨⟨m⟩⟩ := b
  congr 2
  apply List.ext_getElem hs
  intro i h1 h2
  have := h i h1
  unfold sb at this
  simp only [List.getElem?_toArray, List.getElem?_eq_getElem h1, List.getElem?_eq_getElem h2, Option.getD_some] at this
  exact UInt8.toNat_inj.1 this
theorem top_mark {wi hi de : Int} : scmp .eql ((stb (pkL f st wi hi de vs)).extract 0 4) mshText = true := by
  have hl := pkL_length (f := f) (st := st) (wi := wi) (hi := hi) (de := de) (vs := vs)
  have hs : (stb (pkL f st wi hi de vs)).size = 27 + vs.length * 3 * 2 := by rw [stb_size, hl]
  have e : (stb (pkL f st wi hi de vs)).extract 0 4 = mshText := by
    refine toList_eq_of (by rw [extract_size (by omega)]; rfl) fun i hi => ?_
    rw [extract_size (by omega)] at hi
    rw [sb_extract (by omega) hi, Nat.zero_add, sb_stb (by omega), top_at (by omega)]
    rcases (by omega : i = 0 ∨ i = 1 ∨ i = 2 ∨ i = 3) with rfl | rfl | rfl | rfl <;> rfl
  rw [e]; exact scmp_eq_self _
/-- The text of a mesh of quarters is a mesh's text, and what it unpacks to. -/
theorem rnd_ok {ks : Nat → Nat} (hf : Can3 f) (hst : Can .f32 st) (hq : Qs vs ks (vs.length * 3)) (hm : meshOk f st (W : Int) (H : Int) (D : Int) vs.length = true) :
    unOk (stb (pkL f st (W : Int) (H : Int) (D : Int) vs)) = true ∧ unF (stb (pkL f st (W : Int) (H : Int) (D : Int) vs)) = f ∧ unSt (stb (pkL f st (W : Int) (H : Int) (D : Int) vs)) = st ∧
    sb (stb (pkL f st (W : Int) (H : Int) (D : Int) vs)) 4 = W ∧ sb (stb (pkL f st (W : Int) (H : Int) (D : Int) vs)) 5 = H ∧ sb (stb (pkL f st (W : Int) (H : Int) (D : Int) vs)) 6 = D ∧ unN (stb (pkL f st (W : Int) (H : Int) (D : Int) vs)) = vs.length ∧
    ∀ j, j < vs.length * 3 → num (unL (stb (pkL f st (W : Int) (H : Int) (D : Int) vs)) vs.length) j = rvw (Mx ks (vs.length * 3)) (ks j) := by
  obtain ⟨W', H', D', e1, e2, e3, ⟨q1, q2, q3⟩, ⟨q4, q5, q6⟩, hbd, hN⟩ := mesh_open hm
  have e1' := Int.ofNat.inj e1
  have e2' := Int.ofNat.inj e2
  have e3' := Int.ofNat.inj e3
  subst e1'; subst e2'; subst e3'
  have hl := pkL_length (f := f) (st := st) (wi := (W : Int)) (hi := (H : Int)) (de := (D : Int)) (vs := vs)
  obtain ⟨s4, s5, s6⟩ := top_sz (f := f) (st := st) (vs := vs) (W := W) (H := H) (D := D) (by omega) (by omega) (by omega)
  obtain ⟨r1, r2, r3, r4⟩ := top_rd (vs := vs) hf hst (wi := (W : Int)) (hi := (H : Int)) (de := (D : Int))
  have hmk := top_mark (f := f) (st := st) (vs := vs) (wi := (W : Int)) (hi := (H : Int)) (de := (D : Int))
  have h23 := un_s (f := f) (st := st) (wi := (W : Int)) (hi := (H : Int)) (de := (D : Int)) (vs := vs)
  have hq2 := fun k (hk : k < vs.length * 3) => un_q (f := f) (st := st) (wi := (W : Int)) (hi := (H : Int)) (de := (D : Int)) hk
  have hsz : (stb (pkL f st (W : Int) (H : Int) (D : Int) vs)).size = 27 + vs.length * 3 * 2 := by rw [stb_size, hl]
  have hpk : ∀ us : List V3, us.length = vs.length → (∀ j, j < vs.length * 3 → num us j = rvw (Mx ks (vs.length * 3)) (ks j)) → stb (pkL f st (W : Int) (H : Int) (D : Int) us) = stb (pkL f st (W : Int) (H : Int) (D : Int) vs) ∧ allF us (vs.length * 3) = true := fun us h1 h2 => by
    obtain ⟨g1, g2⟩ := rnd_pk (f := f) (st := st) (wi := (W : Int)) (hi := (H : Int)) (de := (D : Int)) h1 hq h2
    exact ⟨by rw [g1], g2⟩
  generalize hT : stb (pkL f st (W : Int) (H : Int) (D : Int) vs) = T at *
  have hF : unF T = f := by unfold unF; rw [r1, r2, r3, hf.1.1, hf.2.1.1, hf.2.2.1]
  have hS : unSt T = st := by unfold unSt; rw [r4, hst.1]
  have hNN : unN T = vs.length := by unfold unN; rw [s4, s5, s6, hN]
  have hnum : ∀ j, j < vs.length * 3 → num (unL T vs.length) j = rvw (Mx ks (vs.length * 3)) (ks j) := by
    intro j hj
    rw [unL_num hj]
    unfold unV rvw
    rw [h23, hq2 j hj, (rnd_sc _ hq).1, (hq j hj).2]
  obtain ⟨p1, p2⟩ := hpk (unL T vs.length) unL_length hnum
  have hms : unMs T = true := by unfold unMs; rw [hF, hS, s4, s5, s6, hNN]; exact hm
  have hpre : unPre T = true := unPre_yes (by omega) hmk (by rw [hNN]; omega) (by rw [hNN, hsz]; omega) hms
  refine ⟨?_, hF, hS, s4, s5, s6, hNN, hnum⟩
  unfold unOk
  rw [hpre, hNN, p2]
  have : unPk T (unL T vs.length) = T := by unfold unPk; rw [hF, hS, s4, s5, s6]; exact p1
  rw [this, scmp_eq_self]; rfl
end
end Go.Proofs.Ytnommdpgmoljcaa


namespace Go.Proofs.Ytnommdpgmoljcaa
open Go.RowKit Go.Deep
section
variable {P : Program} {w0 : World} {O : List Ent} {E : Env} {o : Oper}
theorem yr_cat {t ty : TypeId} {x y : Operand} {a b : ByteArray} (ho : o.op = .binOp .add t x y ty) (hx : E.opd x = some (.string a)) (hy : E.opd y = some (.string b)) (h : a.size + b.size ≤ 9223372036854775807) : YR P E o (.string (a ++ b)) := yr_of fun ρ w hE => by
  have h1 := cn_string (hE.get (x := x) (by simp [ho, Op.operands]) hx)
  have h2 := cn_string (hE.get (x := y) (by simp [ho, Op.operands]) hy)
  refine ⟨.string (a ++ b), ?_, rfl⟩
  have h3 : ¬ (((a.size + b.size : Nat) : Int) > IntKind.i64.max) := by
    have : IntKind.i64.max = 9223372036854775807 := by decide
    omega
  have hs : (Op.stringOp .add a b).run P w = .ok (.string (a ++ b)) w := by
    unfold Op.stringOp
    simp only
    rw [if_neg h3]; rfl
  simp [execOp, ho, h1, h2, eqGuard, binOp, hs]
theorem YQ.cast {u u' : Value} (h : u = u') (hy : YQ P w0 O E o u) : YQ P w0 O E o u' := h ▸ hy
end
theorem nn2 {k : FloatKind} {a b : Nat} (h1 : fnan k a = false) (h2 : fnan k b = false) : ∀ z ∈ [a, b], fnan k z = false := by
  intro z hz; simp only [List.mem_cons, List.mem_nil_iff, or_false] at hz; rcases hz with rfl | rfl <;> assumption
theorem nn3 {k : FloatKind} {a b c : Nat} (h1 : fnan k a = false) (h2 : fnan k b = false) (h3 : fnan k c = false) : ∀ z ∈ [a, b, c], fnan k z = false := by
  intro z hz; simp only [List.mem_cons, List.mem_nil_iff, or_false] at hz; rcases hz with rfl | rfl | rfl <;> assumption
theorem nn4 {k : FloatKind} {a b c d : Nat} (h1 : fnan k a = false) (h2 : fnan k b = false) (h3 : fnan k c = false) (h4 : fnan k d = false) : ∀ z ∈ [a, b, c, d], fnan k z = false := by
  intro z hz; simp only [List.mem_cons, List.mem_nil_iff, or_false] at hz; rcases hz with rfl | rfl | rfl | rfl <;> assumption
/-! ### texts that are cut, or longer -/
theorem sb_app {s b : ByteArray} {i : Nat} (h : i < s.size) : sb (s ++ b) i = sb s i := by
  unfold sb
  rw [ByteArray.data_append, Array.getElem?_append_left h]
theorem un_sizes {s : ByteArray} (h : unOk s = true) : 27 ≤ s.size ∧ s.size = 27 + 6 * unN s := by
  unfold unOk unPre at h
  simp only [Bool.and_eq_true, decide_eq_true_eq] at h
  exact ⟨h.1.1.1.1.1.1, h.1.1.1.2⟩
theorem un_small {s : ByteArray} (h : unOk s = true) : unN s ≤ 216 := by
  unfold unOk unPre at h
  simp only [Bool.and_eq_true, decide_eq_true_eq] at h
  exact h.1.1.1.1.2
theorem mx0 {ks : Nat → Nat} : (0 : Nat) = up (qw (8 + Mx ks 0)) := by rw [Mx]; exact (congrArg up qw8).trans up0 |>.symm
theorem un_cut {s : ByteArray} (h : unOk s = true) {k : Nat} (hk : k < s.size) : unOk (s.extract 0 k) = false := by
  obtain ⟨h1, h2⟩ := un_sizes h
  have hs : (s.extract 0 k).size = k := by rw [extract_size (by omega)]; omega
  rcases Nat.lt_or_ge k 27 with hl | hl
  · exact unOk_no (unPre_no1 (by omega))
  · have hN : unN (s.extract 0 k) = unN s := by
      unfold unN
      rw [sb_extract (by omega) (by omega), sb_extract (by omega) (by omega), sb_extract (by omega) (by omega)]
    exact unOk_no (unPre_no4 (by rw [hs, hN]; omega))
theorem un_more {s b : ByteArray} (h : unOk s = true) (hb : b.size = 1) : unOk (s ++ b) = false := by
  obtain ⟨h1, h2⟩ := un_sizes h
  have hs : (s ++ b).size = s.size + 1 := by rw [ByteArray.size_append, hb]
  have hN : unN (s ++ b) = unN s := by
    unfold unN
    rw [sb_app (by omega), sb_app (by omega), sb_app (by omega)]
  exact unOk_no (unPre_no4 (by rw [hs, hN]; omega))
/-! ### a mesh of quarters -/
theorem hqw_fin : ∀ k : Fin 9, fin (hqw k) = true := by decide +kernel
theorem half_ok : above 1056964608 = true ∧ fin 0 = true ∧ Can .f32 1056964608 := by
  refine ⟨by decide +kernel, by decide +kernel, by decide +kernel, by decide⟩
theorem can_qw (k : Nat) : Can .f32 (qw k) := can_fop _ _ _ _
theorem qs_of {vs : List V3} (h : ∀ v ∈ vs, Q3 v) : ∃ ks : Nat → Nat, Qs vs ks (vs.length * 3) := by
  have key : ∀ j, j < vs.length * 3 → ∃ k : Nat, k < 17 ∧ num vs j = qw k := by
    intro j hj
    obtain ⟨a, b, c, ⟨ha, hb, hc⟩, e⟩ := h (vs.getD (j / 3) z3) (by
      rw [List.getD_eq_getElem?_getD, List.getElem?_eq_getElem (show j / 3 < vs.length by omega), Option.getD_some]; exact List.getElem_mem _)
    unfold num
    rw [e]
    split
    · exact ⟨a, ha, rfl⟩
    · split
      · exact ⟨b, hb, rfl⟩
      · exact ⟨c, hc, rfl⟩
  exact choose_lt key
theorem cans_q {vs : List V3} (h : ∀ v ∈ vs, Q3 v) : Cans3 vs := by
  intro v hv
  obtain ⟨a, b, c, _, rfl⟩ := h v hv
  exact ⟨can_qw _, can_qw _, can_qw _⟩
/-- What the law asks of a drawn mesh: T is its text. -/
structure PmF (k W H D : Nat) (vs : List V3) (T : ByteArray) (ks : Nat → Nat) : Prop where
  hT : pkT (hqw k, 0, 0) 1056964608 (W : Int) (H : Int) (D : Int) vs = T
  hk : pkOk (hqw k, 0, 0) 1056964608 (W : Int) (H : Int) (D : Int) vs = true
  ok : unOk T = true
  hT2 : pkT ((unG T).1, (unG T).2.1, (unG T).2.2) (unS T) (unI T 4) (unI T 5) (unI T 6) (unR T) = T
  hk2 : pkOk ((unG T).1, (unG T).2.1, (unG T).2.2) (unS T) (unI T 4) (unI T 5) (unI T 6) (unR T) = true
  len : (unR T).length = vs.length
  num : ∀ j, j < vs.length * 3 → num (unR T) j = rvw (Mx ks (vs.length * 3)) (ks j)
  qs : Qs vs ks (vs.length * 3)
  hX : Cans3 vs
  hf : Can3 (hqw k, 0, 0)
  hN : vs.length ≤ 48
theorem pm_facts {k W H D : Nat} {ar : Option Addr} {cr : Nat} {vs : List V3} (h : DM.ok ⟨k, W, H, D, ar, cr, vs⟩) : ∃ T ks, PmF k W H D vs T ks := by
  obtain ⟨h1, ⟨h2, h3⟩, ⟨h4, h5⟩, ⟨h6, h7⟩, h8, h9⟩ := h
  simp only at h1 h2 h3 h4 h5 h6 h7 h8 h9
  obtain ⟨ks, hq⟩ := qs_of h9
  obtain ⟨z1, z2⟩ := sz48 h3 h5 h7
  have hf : Can3 (hqw k, 0, 0) := ⟨can_fop _ _ _ _, can_f0, can_f0⟩
  have hst : Can .f32 1056964608 := half_ok.2.2
  have hm : meshOk (hqw k, 0, 0) 1056964608 (W : Int) (H : Int) (D : Int) vs.length = true := by
    have e1 : fin3 (hqw k, 0, 0) = true := by unfold fin3; rw [hqw_fin ⟨k, h1⟩, half_ok.2.1]; rfl
    have e2 : szOk (W : Int) (H : Int) (D : Int) = true := by
      refine szOk_yes (decide_eq_true (by omega)) (decide_eq_true (by omega)) (decide_eq_true (by omega)) ?_
      rw [show (W : Int) * H * D = ((W * H * D : Nat) : Int) by rw [Int.natCast_mul, Int.natCast_mul]]
      omega
    rw [← meshOk_last e1 half_ok.1 e2]
    show ((vs.length : Int) == (W : Int) * H * D) = true
    rw [beq_iff_eq, h8, Int.natCast_mul, Int.natCast_mul]
  have hk : pkOk (hqw k, 0, 0) 1056964608 (W : Int) (H : Int) (D : Int) vs = true := pk_yes hm (rnd_sc _ hq).2
  obtain ⟨r1, r2, r3, r4, r5, r6, r7, r8⟩ := rnd_ok hf hst hq hm
  have hTe := pkT_yes hk
  generalize hT : stb (pkL (hqw k, 0, 0) 1056964608 (W : Int) (H : Int) (D : Int) vs) = T at *
  have hR : unR T = unL T vs.length := by rw [unR_yes r1, r7]
  have hG : ((unG T).1, (unG T).2.1, (unG T).2.2) = (hqw k, 0, 0) := by rw [unG_yes r1, r2]
  have hS : unS T = 1056964608 := by rw [unS_yes r1, r3]
  have h4' : unI T 4 = (W : Int) := by rw [unI_yes r1, r4]
  have h5' : unI T 5 = (H : Int) := by rw [unI_yes r1, r5]
  have h6' : unI T 6 = (D : Int) := by rw [unI_yes r1, r6]
  have hnum : ∀ j, j < vs.length * 3 → Go.Proofs.Ytnommdpgmoljcaa.num (unR T) j = rvw (Mx ks (vs.length * 3)) (ks j) := by rw [hR]; exact r8
  have hl : (unR T).length = vs.length := by rw [hR, unL_length]
  obtain ⟨p1, p2⟩ := rnd_pk (f := (hqw k, 0, 0)) (st := 1056964608) (wi := (W : Int)) (hi := (H : Int)) (de := (D : Int)) hl hq hnum
  have hk2 : pkOk (hqw k, 0, 0) 1056964608 (W : Int) (H : Int) (D : Int) (unR T) = true := pk_yes (by rw [hl]; exact hm) (by rw [hl]; exact p2)
  refine ⟨T, ks, hTe, hk, r1, ?_, ?_, hl, hnum, hq, cans_q h9, hf, by omega⟩
  · rw [hG, hS, h4', h5', h6', pkT_yes hk2, p1]; exact hT
  · rw [hG, hS, h4', h5', h6']; exact hk2
section
variable {vs us : List V3} {ks : Nat → Nat} {i M : Nat}
theorem node_q (h : Qs vs ks (vs.length * 3)) (hi : i < vs.length) : vs.getD i z3 = (qw (ks (i * 3)), qw (ks (i * 3 + 1)), qw (ks (i * 3 + 2))) := by
  have e0 := (h (i * 3) (by omega)).2
  have e1 := (h (i * 3 + 1) (by omega)).2
  have e2 := (h (i * 3 + 2) (by omega)).2
  rw [num_0] at e0; rw [num_1] at e1; rw [num_2] at e2
  exact Prod.ext e0 (Prod.ext e1 e2)
theorem node_r (h : ∀ j, j < vs.length * 3 → num us j = rvw M (ks j)) (hi : i < vs.length) : us.getD i z3 = (rvw M (ks (i * 3)), rvw M (ks (i * 3 + 1)), rvw M (ks (i * 3 + 2))) := by
  have e0 := h (i * 3) (by omega)
  have e1 := h (i * 3 + 1) (by omega)
  have e2 := h (i * 3 + 2) (by omega)
  rw [num_0] at e0; rw [num_1] at e1; rw [num_2] at e2
  exact Prod.ext e0 (Prod.ext e1 e2)
theorem mx_step (h : Qs vs ks (vs.length * 3)) (hi : i < vs.length) : [gap64 (up (qw (ks (i * 3)))) 0, gap64 (up (qw (ks (i * 3 + 1)))) 0, gap64 (up (qw (ks (i * 3 + 2)))) 0].foldl (fmx .f64) (up (qw (8 + Mx ks (i * 3)))) = up (qw (8 + Mx ks ((i + 1) * 3))) := by
  have m8 : ∀ k, k ≤ vs.length * 3 → Mx ks k ≤ 8 := fun k hk => Mx_le8 k fun j hj => (h j (by omega)).1
  simp only [List.foldl_cons, List.foldl_nil]
  rw [tb6_use (m8 _ (by omega)) (h (i * 3) (by omega)).1]
  have e1 : maxn (Mx ks (i * 3)) (dst (ks (i * 3))) = Mx ks (i * 3 + 1) := rfl
  rw [e1, tb6_use (m8 _ (by omega)) (h (i * 3 + 1) (by omega)).1]
  have e2 : maxn (Mx ks (i * 3 + 1)) (dst (ks (i * 3 + 1))) = Mx ks (i * 3 + 2) := rfl
  rw [e2, tb6_use (m8 _ (by omega)) (h (i * 3 + 2) (by omega)).1]
  have e3 : maxn (Mx ks (i * 3 + 2)) (dst (ks (i * 3 + 2))) = Mx ks (i * 3 + 3) := rfl
  rw [e3, show (i + 1) * 3 = i * 3 + 3 by omega]
theorem mx_nn (h : Qs vs ks (vs.length * 3)) (hi : i ≤ vs.length) : fnan .f64 (up (qw (8 + Mx ks (i * 3)))) = false := (tb4_use (Mx_le8 _ fun j hj => (h j (by omega)).1)).2.2
theorem gap_q (h : Qs vs ks (vs.length * 3)) {j : Nat} (hj : j < vs.length * 3) : fin (qw (ks j)) = true ∧ fnan .f64 (gap64 (up (qw (ks j))) 0) = false ∧ fnan .f64 (fop .sub .f64 (up (qw (ks j))) 0) = false ∧ fnan .f64 (fop .sub .f64 0 (up (qw (ks j)))) = false := tb5_use (h j hj).1
theorem gap_r (h : Qs vs ks (vs.length * 3)) {j : Nat} (hj : j < vs.length * 3) : fin (rvw (Mx ks (vs.length * 3)) (ks j)) = true ∧ qz (qw (8 + (Mx ks (vs.length * 3)))) (rvw (Mx ks (vs.length * 3)) (ks j)) = qz (qw (8 + (Mx ks (vs.length * 3)))) (qw (ks j)) ∧ fcmp .gtr .f64 (gap64 (up (fop .sub .f32 (qw (ks j)) (rvw (Mx ks (vs.length * 3)) (ks j)))) 0) (fop .quo .f64 (up (qw (8 + (Mx ks (vs.length * 3))))) 4674736138332667904) = false ∧ fnan .f64 (gap64 (up (fop .sub .f32 (qw (ks j)) (rvw (Mx ks (vs.length * 3)) (ks j)))) 0) = false ∧ fnan .f64 (fop .sub .f64 (up (fop .sub .f32 (qw (ks j)) (rvw (Mx ks (vs.length * 3)) (ks j)))) 0) = false ∧ fnan .f64 (fop .sub .f64 0 (up (fop .sub .f32 (qw (ks j)) (rvw (Mx ks (vs.length * 3)) (ks j))))) = false := tb3_use (Mx_le8 _ fun j hj => (h j hj).1) (h j hj).1 (dst_le_Mx (ks := ks) (vs.length * 3) j hj)
theorem gtr_max3 {a b c q : Nat} (na : fnan .f64 a = false) (nb : fnan .f64 b = false) (nc : fnan .f64 c = false) (ha : fcmp .gtr .f64 a q = false) (hb : fcmp .gtr .f64 b q = false) (hc : fcmp .gtr .f64 c q = false) : fcmp .gtr .f64 ([b, c].foldl (fmx .f64) a) q = false := by
  simp only [List.foldl_cons, List.foldl_nil]
  rcases fmx_or .f64 (fnan_fmx na nb) nc with h | h
  · rw [h]
    rcases fmx_or .f64 na nb with h2 | h2 <;> rw [h2] <;> assumption
  · rw [h]; exact hc
end
end Go.Proofs.Ytnommdpgmoljcaa

