/- Own texts of this claim, merged: WR8, WRows, WDesign, WSameN, WWire, WWLaw, WField, WMeshB, Cell. -/
import Derived.KernelRfl
import Derived.Test.YtfignpiphihgfaaKFnMeshes2
namespace Go.Proofs.Ytfignpiphihgfaa
open Go.RowKit
set_option linter.unusedVariables false
set_option linter.unusedSimpArgs false
set_option maxRecDepth 20000

theorem mixed_R8 : Try.prog.follows .mixedOrders = true := by kernel_rfl
theorem sz3_R8 : (Try.prog.info? 3).map (·.size) = some 1 := by kernel_rfl
theorem fb3_R8 : flatB Try.prog 3 = true := by kernel_rfl
theorem sz62_R8 : (Try.prog.info? 62).map (·.size) = some 1 := by kernel_rfl
theorem fb62_R8 : flatB Try.prog 62 = true := by kernel_rfl
theorem sz5_R8 : (Try.prog.info? 5).map (·.size) = some 1 := by kernel_rfl
theorem fb5_R8 : flatB Try.prog 5 = true := by kernel_rfl
theorem sz150_R8 : (Try.prog.info? 150).map (·.size) = some 1 := by kernel_rfl
theorem fb150_R8 : flatB Try.prog 150 = true := by kernel_rfl
theorem known142_R8 : Known Try.prog 142 := Known.mk' Try.func142 (by kernel_rfl)
theorem lay152_R8 : Lay Try.prog 152 [Value.slice none 0 0, Value.int .i64 0, Value.int .u64 0] [(0, 1), (1, 1), (2, 1)] := Lay.mk' (by kernel_rfl) (by kernel_rfl)
theorem zero30_R8 : (Try.prog.info? 30).bind (·.zero) = some (Value.agg #[Value.float .f32 0, Value.float .f32 0, Value.float .f32 0, Value.float .f32 0, Value.int .i64 0, Value.int .i64 0, Value.int .i64 0, Value.slice none 0 0]) := by kernel_rfl
theorem known95_R8 : Known Try.prog 95 := Known.mk' Try.func95 (by kernel_rfl)
theorem elt27_R8 : Elt Try.prog 27 [Value.float .f32 0, Value.float .f32 0, Value.float .f32 0] 12 := Elt.mk' (by kernel_rfl) (by decide)
theorem lay30_R8 : Lay Try.prog 30 [Value.float .f32 0, Value.float .f32 0, Value.float .f32 0, Value.float .f32 0, Value.int .i64 0, Value.int .i64 0, Value.int .i64 0, Value.slice none 0 0] [(0, 3), (3, 1), (4, 1), (5, 1), (6, 1), (7, 1)] := Lay.mk' (by kernel_rfl) (by kernel_rfl)
theorem sz30_R8 : (Try.prog.info? 30).map (·.size) = some 8 := by kernel_rfl
theorem known97_R8 : Known Try.prog 97 := Known.mk' Try.func97 (by kernel_rfl)
theorem lay27_R8 : Lay Try.prog 27 [Value.float .f32 0, Value.float .f32 0, Value.float .f32 0] [(0, 1), (1, 1), (2, 1)] := Lay.mk' (by kernel_rfl) (by kernel_rfl)
theorem sz27_R8 : (Try.prog.info? 27).map (·.size) = some 3 := by kernel_rfl
theorem sz2_R8 : (Try.prog.info? 2).map (·.size) = some 1 := by kernel_rfl
theorem fb2_R8 : flatB Try.prog 2 = true := by kernel_rfl
theorem zero27_R8 : (Try.prog.info? 27).bind (·.zero) = some (Value.agg #[Value.float .f32 0, Value.float .f32 0, Value.float .f32 0]) := by kernel_rfl
theorem sz23_R8 : (Try.prog.info? 23).map (·.size) = some 1 := by kernel_rfl
theorem sz28_R8 : (Try.prog.info? 28).map (·.size) = some 1 := by kernel_rfl
theorem fb28_R8 : flatB Try.prog 28 = true := by kernel_rfl
attribute [local irreducible] fop fcmp fconv fneg fabs List.getD qw hqw uw

theorem c_next {w0 : World} {a : Option Addr} {c q n sd : Nat} {bs : List Int} (hA : Cl w0 a (bl bs)) (hb : Bytes bs) (hl : bs.length ≤ 2000000) (hn : n ≤ 100000) (hsd : sd < 18446744073709551616) : Mut Try.prog 142 [.pointer (some (adr (some ⟨q, 0, none⟩) 0))] w0 [⟨some ⟨q, 0, none⟩, [.slice a bs.length c, .int .i64 ((n : Nat) : Int), .int .u64 ((sd : Nat) : Int)], 3, 152⟩] (fun x : {x : Nat × Nat // x.1 < 256 ∧ x.2 < 18446744073709551616} => .int .i64 ((x.1.1 : Nat) : Int)) (fun x => [⟨some ⟨q, 0, none⟩, [.slice a bs.length c, .int .i64 ((n + 1 : Nat) : Int), .int .u64 ((x.1.2 : Nat) : Int)], 3, 152⟩]) := by
  refine Mut.enter Try.func142 rfl Try.ntmps142 (Nat.le_of_ble_eq_true rfl) ?_
  intro F
  refine V.seq ?_
  refine V.region ?_
  refine VL.r (.inl rfl) rfl (by decide) (yr_assign (u := .int .i64 0) rfl rfl) ?_
  refine VL.nil ?_
  refine VE.then_wp ?_
  refine V.seq ?_
  refine V.region ?_
  refine VL.r (.inl rfl) rfl (by decide) (yr_assign (u := .int .i64 0) rfl rfl) ?_
  refine VL.nil ?_
  refine VE.then_wp ?_
  refine V.seq ?_
  refine V.seq ?_
  refine V.draw [(0, 0), (1, 0), (2, 0), (3, 0), (4, 0), (5, 0), (6, 0), (7, 0), (8, 0), (9, 0)] mixed_R8 (by kernel_rfl) (by intro j o hj; simp at hj) ?_
  refine SW.r rfl (.inl rfl) rfl (by decide) (yr_move rfl rfl) ?_
  refine SW.r rfl (.inl rfl) rfl (by decide) (yr_nilCheck rfl rfl) ?_
  refine SW.r rfl (.inl rfl) rfl (by decide) (yr_fieldAddr rfl Try.underlying152 rfl rfl sz3_R8 (by decide) rfl) ?_
  refine SW.q rfl (.inl rfl) rfl (by decide) (yq_load rfl fb3_R8 rfl (by first | exact Sees.root (by assumption) | exact Sees.own (by repeat (first | exact List.mem_cons_self | exact List.mem_append_left _ (by assumption) | apply List.mem_cons_of_mem | apply List.mem_append_right)) | exact Sees.root (hR _ (by omega)) | exact Sees.own (RowsIn.mem (by repeat (first | exact RowsIn.here | exact RowsIn.last | apply RowsIn.there | apply RowsIn.thereS)) _ (by omega)) | exact Sees.own (WRowsIn.mem (by repeat (first | exact WRowsIn.here | exact WRowsIn.last | apply WRowsIn.there | apply WRowsIn.thereS)) _ (by omega))) rfl) ?_
  refine SW.r rfl (.inl rfl) rfl (by decide) (yr_move rfl rfl) ?_
  refine SW.r rfl (.inl rfl) rfl (by decide) (yr_nilCheck rfl rfl) ?_
  refine SW.r rfl (.inl rfl) rfl (by decide) (yr_fieldAddr rfl Try.underlying152 rfl rfl sz62_R8 (by decide) rfl) ?_
  refine SW.q rfl (.inl rfl) rfl (by decide) (yq_load rfl fb62_R8 rfl (by first | exact Sees.root (by assumption) | exact Sees.own (by repeat (first | exact List.mem_cons_self | exact List.mem_append_left _ (by assumption) | apply List.mem_cons_of_mem | apply List.mem_append_right)) | exact Sees.root (hR _ (by omega)) | exact Sees.own (RowsIn.mem (by repeat (first | exact RowsIn.here | exact RowsIn.last | apply RowsIn.there | apply RowsIn.thereS)) _ (by omega)) | exact Sees.own (WRowsIn.mem (by repeat (first | exact WRowsIn.here | exact WRowsIn.last | apply WRowsIn.there | apply WRowsIn.thereS)) _ (by omega))) rfl) ?_
  refine SW.r rfl (.inl rfl) rfl (by decide) (yr_len rfl Try.underlying62 rfl) ?_
  refine SW.r rfl (.inl rfl) rfl (by decide) (yr_icmp rfl (.inr (.inr (.inl rfl))) rfl rfl) ?_
  refine SW.done ?_
  refine VE.then_wp ?_
  refine V.cond rfl (fun h1 => ?_) (fun h1 => ?_)
  · skip
    replace h1 := ic_lss h1
    have hbn := byte_get hb (show n < bs.length by omega)
    refine V.draw [(0, 0), (1, 0), (2, 0), (3, 0), (4, 0), (5, 0), (6, 0), (7, 0), (8, 0), (9, 0), (10, 0), (11, 0)] mixed_R8 (by kernel_rfl) (by intro j o hj; simp at hj) ?_
    refine SW.r rfl (.inl rfl) rfl (by decide) (yr_move rfl rfl) ?_
    refine SW.r rfl (.inl rfl) rfl (by decide) (yr_nilCheck rfl rfl) ?_
    refine SW.r rfl (.inl rfl) rfl (by decide) (yr_fieldAddr rfl Try.underlying152 rfl rfl sz62_R8 (by decide) rfl) ?_
    refine SW.q rfl (.inl rfl) rfl (by decide) (yq_load rfl fb62_R8 rfl (by first | exact Sees.root (by assumption) | exact Sees.own (by repeat (first | exact List.mem_cons_self | exact List.mem_append_left _ (by assumption) | apply List.mem_cons_of_mem | apply List.mem_append_right)) | exact Sees.root (hR _ (by omega)) | exact Sees.own (RowsIn.mem (by repeat (first | exact RowsIn.here | exact RowsIn.last | apply RowsIn.there | apply RowsIn.thereS)) _ (by omega)) | exact Sees.own (WRowsIn.mem (by repeat (first | exact WRowsIn.here | exact WRowsIn.last | apply WRowsIn.there | apply WRowsIn.thereS)) _ (by omega))) rfl) ?_
    refine SW.r rfl (.inl rfl) rfl (by decide) (yr_move rfl rfl) ?_
    refine SW.r rfl (.inl rfl) rfl (by decide) (yr_nilCheck rfl rfl) ?_
    refine SW.r rfl (.inl rfl) rfl (by decide) (yr_fieldAddr rfl Try.underlying152 rfl rfl sz3_R8 (by decide) rfl) ?_
    refine SW.q rfl (.inl rfl) rfl (by decide) (yq_load rfl fb3_R8 rfl (by first | exact Sees.root (by assumption) | exact Sees.own (by repeat (first | exact List.mem_cons_self | exact List.mem_append_left _ (by assumption) | apply List.mem_cons_of_mem | apply List.mem_append_right)) | exact Sees.root (hR _ (by omega)) | exact Sees.own (RowsIn.mem (by repeat (first | exact RowsIn.here | exact RowsIn.last | apply RowsIn.there | apply RowsIn.thereS)) _ (by omega)) | exact Sees.own (WRowsIn.mem (by repeat (first | exact WRowsIn.here | exact WRowsIn.last | apply WRowsIn.there | apply WRowsIn.thereS)) _ (by omega))) rfl) ?_
    refine SW.q rfl (.inl rfl) rfl (by decide) (yq_idx (k := n) rfl Try.underlying62 sz5_R8 rfl rfl (by first | exact Sees.root (by assumption) | exact Sees.own (by repeat (first | exact List.mem_cons_self | exact List.mem_append_left _ (by assumption) | apply List.mem_cons_of_mem | apply List.mem_append_right)) | exact Sees.root (hR _ (by omega)) | exact Sees.own (RowsIn.mem (by repeat (first | exact RowsIn.here | exact RowsIn.last | apply RowsIn.there | apply RowsIn.thereS)) _ (by omega)) | exact Sees.own (WRowsIn.mem (by repeat (first | exact WRowsIn.here | exact WRowsIn.last | apply WRowsIn.there | apply WRowsIn.thereS)) _ (by omega))) (by first | rfl | omega | (push_cast; rfl) | (push_cast; omega) | exact tmod_nat _ _) (by exact bl_length _) (by omega)) ?_
    refine SW.q rfl (.inl rfl) rfl (by decide) (yq_load (u := .int .u8 (bs.getD n 0)) rfl fb5_R8 rfl (by first | exact Sees.root (by assumption) | exact Sees.own (by repeat (first | exact List.mem_cons_self | exact List.mem_append_left _ (by assumption) | apply List.mem_cons_of_mem | apply List.mem_append_right)) | exact Sees.root (hR _ (by omega)) | exact Sees.own (RowsIn.mem (by repeat (first | exact RowsIn.here | exact RowsIn.last | apply RowsIn.there | apply RowsIn.thereS)) _ (by omega)) | exact Sees.own (WRowsIn.mem (by repeat (first | exact WRowsIn.here | exact WRowsIn.last | apply WRowsIn.there | apply WRowsIn.thereS)) _ (by omega))) (bl_get (by omega))) ?_
    refine SW.r rfl (.inl rfl) rfl (by decide) (yr_intConv (r := bs.getD n 0) rfl Try.underlying5 Try.underlying3 rfl (wrap_in (by omega))) ?_
    refine SW.r rfl (.inl rfl) rfl (by decide) (yr_assign rfl rfl) ?_
    refine SW.done ?_
    refine VE.then_wp ?_
    refine V.seq ?_
    refine V.region ?_
    refine VL.r (.inl rfl) rfl (by decide) (yr_move rfl rfl) ?_
    refine VL.r (.inl rfl) rfl (by decide) (yr_nilCheck rfl rfl) ?_
    refine VL.r (.inl rfl) rfl (by decide) (yr_fieldAddr rfl Try.underlying152 rfl rfl sz3_R8 (by decide) rfl) ?_
    refine VL.q (.inl rfl) rfl (by decide) (yq_load rfl fb3_R8 rfl (by first | exact Sees.root (by assumption) | exact Sees.own (by repeat (first | exact List.mem_cons_self | exact List.mem_append_left _ (by assumption) | apply List.mem_cons_of_mem | apply List.mem_append_right)) | exact Sees.root (hR _ (by omega)) | exact Sees.own (RowsIn.mem (by repeat (first | exact RowsIn.here | exact RowsIn.last | apply RowsIn.there | apply RowsIn.thereS)) _ (by omega)) | exact Sees.own (WRowsIn.mem (by repeat (first | exact WRowsIn.here | exact WRowsIn.last | apply WRowsIn.there | apply WRowsIn.thereS)) _ (by omega))) rfl) ?_
    refine VL.r (.inl rfl) rfl (by decide) (yr_addN (n + 1) rfl rfl rfl (by push_cast; rfl) (by omega)) ?_
    refine VL.r (.inl rfl) rfl (by decide) (yr_nilCheck rfl rfl) ?_
    refine VL.r (.inl rfl) rfl (by decide) (yr_fieldAddr rfl Try.underlying152 rfl rfl sz3_R8 (by decide) rfl) ?_
    refine VL.s (.inl rfl) rfl (yc_store rfl sz3_R8 rfl rfl (by repeat (first | exact UpdF.here | apply UpdF.there | apply UpdF.thereS)) (.inl ⟨rfl, rfl⟩) rfl (by first | exact Nat.le_of_ble_eq_true rfl | simp) (by decide) rfl) ?_
    rintro ⟨⟩
    refine VL.nil ?_
    refine VE.then_wp ?_
    refine V.seq ?_
    refine V.region ?_
    refine VL.r (.inl rfl) rfl (by decide) (yr_move rfl rfl) ?_
    refine VL.r (.inl rfl) rfl (by decide) (yr_move rfl rfl) ?_
    refine VL.r (.inl rfl) rfl (by decide) (yr_nilCheck rfl rfl) ?_
    refine VL.r (.inl rfl) rfl (by decide) (yr_fieldAddr rfl Try.underlying152 rfl rfl sz150_R8 (by decide) rfl) ?_
    refine VL.q (.inl rfl) rfl (by decide) (yq_load rfl fb150_R8 rfl (by first | exact Sees.root (by assumption) | exact Sees.own (by repeat (first | exact List.mem_cons_self | exact List.mem_append_left _ (by assumption) | apply List.mem_cons_of_mem | apply List.mem_append_right)) | exact Sees.root (hR _ (by omega)) | exact Sees.own (RowsIn.mem (by repeat (first | exact RowsIn.here | exact RowsIn.last | apply RowsIn.there | apply RowsIn.thereS)) _ (by omega)) | exact Sees.own (WRowsIn.mem (by repeat (first | exact WRowsIn.here | exact WRowsIn.last | apply WRowsIn.there | apply WRowsIn.thereS)) _ (by omega))) rfl) ?_
    refine VL.r (.inl rfl) rfl (by decide) (yr_int rfl rfl rfl (.inr (.inr ⟨rfl, rfl⟩))) ?_
    refine VL.r (.inl rfl) rfl (by decide) (yr_move rfl rfl) ?_
    refine VL.r (.inl rfl) rfl (by decide) (yr_intConv rfl Try.underlying3 Try.underlying150 rfl rfl) ?_
    refine VL.r (.inl rfl) rfl (by decide) (yr_int rfl rfl rfl (.inl ⟨rfl, rfl⟩)) ?_
    refine VL.r (.inl rfl) rfl (by decide) (yr_int rfl rfl rfl (.inl ⟨rfl, u64_to _⟩)) ?_
    refine VL.r (.inl rfl) rfl (by decide) (yr_nilCheck rfl rfl) ?_
    refine VL.r (.inl rfl) rfl (by decide) (yr_fieldAddr rfl Try.underlying152 rfl rfl sz150_R8 (by decide) rfl) ?_
    refine VL.s (.inl rfl) rfl (yc_store rfl sz150_R8 rfl rfl (by repeat (first | exact UpdF.here | apply UpdF.there | apply UpdF.thereS)) (.inl ⟨rfl, rfl⟩) rfl (by first | exact Nat.le_of_ble_eq_true rfl | simp) (by decide) rfl) ?_
    rintro ⟨⟩
    refine VL.nil ?_
    refine VE.then_wp ?_
    refine V.seq ?_
    refine V.seq ?_
    refine V.draw [(0, 0), (1, 0), (2, 0), (3, 0), (4, 0), (5, 0), (6, 0), (7, 0), (8, 0), (9, 0)] mixed_R8 (by kernel_rfl) (by intro j o hj; simp at hj) ?_
    refine SW.r rfl (.inl rfl) rfl (by decide) (yr_move rfl rfl) ?_
    refine SW.r rfl (.inl rfl) rfl (by decide) (yr_nilCheck rfl rfl) ?_
    refine SW.r rfl (.inl rfl) rfl (by decide) (yr_fieldAddr rfl Try.underlying152 rfl rfl sz3_R8 (by decide) rfl) ?_
    refine SW.q rfl (.inl rfl) rfl (by decide) (yq_load rfl fb3_R8 rfl (by first | exact Sees.root (by assumption) | exact Sees.own (by repeat (first | exact List.mem_cons_self | exact List.mem_append_left _ (by assumption) | apply List.mem_cons_of_mem | apply List.mem_append_right)) | exact Sees.root (hR _ (by omega)) | exact Sees.own (RowsIn.mem (by repeat (first | exact RowsIn.here | exact RowsIn.last | apply RowsIn.there | apply RowsIn.thereS)) _ (by omega)) | exact Sees.own (WRowsIn.mem (by repeat (first | exact WRowsIn.here | exact WRowsIn.last | apply WRowsIn.there | apply WRowsIn.thereS)) _ (by omega))) rfl) ?_
    refine SW.r rfl (.inl rfl) rfl (by decide) (yr_move rfl rfl) ?_
    refine SW.r rfl (.inl rfl) rfl (by decide) (yr_nilCheck rfl rfl) ?_
    refine SW.r rfl (.inl rfl) rfl (by decide) (yr_fieldAddr rfl Try.underlying152 rfl rfl sz62_R8 (by decide) rfl) ?_
    refine SW.q rfl (.inl rfl) rfl (by decide) (yq_load rfl fb62_R8 rfl (by first | exact Sees.root (by assumption) | exact Sees.own (by repeat (first | exact List.mem_cons_self | exact List.mem_append_left _ (by assumption) | apply List.mem_cons_of_mem | apply List.mem_append_right)) | exact Sees.root (hR _ (by omega)) | exact Sees.own (RowsIn.mem (by repeat (first | exact RowsIn.here | exact RowsIn.last | apply RowsIn.there | apply RowsIn.thereS)) _ (by omega)) | exact Sees.own (WRowsIn.mem (by repeat (first | exact WRowsIn.here | exact WRowsIn.last | apply WRowsIn.there | apply WRowsIn.thereS)) _ (by omega))) rfl) ?_
    refine SW.r rfl (.inl rfl) rfl (by decide) (yr_len rfl Try.underlying62 rfl) ?_
    refine SW.r rfl (.inl rfl) rfl (by decide) (yr_icmp rfl (.inr (.inr (.inr (.inl rfl)))) rfl rfl) ?_
    refine SW.done ?_
    refine VE.then_wp ?_
    refine V.cond rfl (fun h2 => ?_) (fun h2 => ?_)
    · skip
      replace h2 := ic_leq h2
      refine V.seq ?_
      refine V.region ?_
      refine VL.r (.inl rfl) rfl (by decide) (yr_move rfl rfl) ?_
      refine VL.r (.inl rfl) rfl (by decide) (yr_assign rfl rfl) ?_
      refine VL.nil ?_
      refine VE.then_wp ?_
      refine V.ret ?_
      refine VE.then_ret ?_
      refine ret1 rfl rfl (fun w1 hw => ?_)
      first
        | exact ⟨⟨((bs.getD n 0).toNat, uw _), by show (bs.getD n 0).toNat < 256; omega, uw_lt _⟩, by show Value.int .i64 (bs.getD n 0) = .int .i64 (((bs.getD n 0).toNat : Nat) : Int); rw [Int.toNat_of_nonneg hbn.1], hw⟩
        | exact ⟨⟨((_ % 256 : Int).toNat, uw _), by show (_ % 256 : Int).toNat < 256; omega, uw_lt _⟩, rfl, hw⟩
    · skip
      replace h2 := ic_leq' h2
      refine V.skip ?_
      refine VE.then_wp ?_
      refine V.seq ?_
      refine V.region ?_
      refine VL.r (.inl rfl) rfl (by decide) (yr_move rfl rfl) ?_
      refine VL.r (.inl rfl) rfl (by decide) (yr_nilCheck rfl rfl) ?_
      refine VL.r (.inl rfl) rfl (by decide) (yr_fieldAddr rfl Try.underlying152 rfl rfl sz150_R8 (by decide) rfl) ?_
      refine VL.q (.inl rfl) rfl (by decide) (yq_load rfl fb150_R8 rfl (by first | exact Sees.root (by assumption) | exact Sees.own (by repeat (first | exact List.mem_cons_self | exact List.mem_append_left _ (by assumption) | apply List.mem_cons_of_mem | apply List.mem_append_right)) | exact Sees.root (hR _ (by omega)) | exact Sees.own (RowsIn.mem (by repeat (first | exact RowsIn.here | exact RowsIn.last | apply RowsIn.there | apply RowsIn.thereS)) _ (by omega)) | exact Sees.own (WRowsIn.mem (by repeat (first | exact WRowsIn.here | exact WRowsIn.last | apply WRowsIn.there | apply WRowsIn.thereS)) _ (by omega))) rfl) ?_
      refine VL.r (.inl rfl) rfl (by decide) (yr_shr (b := 40) rfl rfl rfl rfl) ?_
      refine VL.r (.inl rfl) rfl (by decide) (yr_bits rfl rfl rfl (.inl ⟨rfl, and255u _⟩)) ?_
      refine VL.r (.inl rfl) rfl (by decide) (yr_intConv rfl Try.underlying150 Try.underlying2 rfl (wrap_in (by omega))) ?_
      refine VL.r (.inl rfl) rfl (by decide) (yr_assign rfl rfl) ?_
      refine VL.nil ?_
      refine VE.then_wp ?_
      refine V.ret ?_
      refine ret1 rfl rfl (fun w1 hw => ?_)
      first
        | exact ⟨⟨((bs.getD n 0).toNat, uw _), by show (bs.getD n 0).toNat < 256; omega, uw_lt _⟩, by show Value.int .i64 (bs.getD n 0) = .int .i64 (((bs.getD n 0).toNat : Nat) : Int); rw [Int.toNat_of_nonneg hbn.1], hw⟩
        | exact ⟨⟨((_ % 256 : Int).toNat, uw _), by show (_ % 256 : Int).toNat < 256; omega, uw_lt _⟩, rfl, hw⟩
  · skip
    replace h1 := ic_lss' h1
    refine V.skip ?_
    refine VE.then_wp ?_
    refine V.seq ?_
    refine V.region ?_
    refine VL.r (.inl rfl) rfl (by decide) (yr_move rfl rfl) ?_
    refine VL.r (.inl rfl) rfl (by decide) (yr_nilCheck rfl rfl) ?_
    refine VL.r (.inl rfl) rfl (by decide) (yr_fieldAddr rfl Try.underlying152 rfl rfl sz3_R8 (by decide) rfl) ?_
    refine VL.q (.inl rfl) rfl (by decide) (yq_load rfl fb3_R8 rfl (by first | exact Sees.root (by assumption) | exact Sees.own (by repeat (first | exact List.mem_cons_self | exact List.mem_append_left _ (by assumption) | apply List.mem_cons_of_mem | apply List.mem_append_right)) | exact Sees.root (hR _ (by omega)) | exact Sees.own (RowsIn.mem (by repeat (first | exact RowsIn.here | exact RowsIn.last | apply RowsIn.there | apply RowsIn.thereS)) _ (by omega)) | exact Sees.own (WRowsIn.mem (by repeat (first | exact WRowsIn.here | exact WRowsIn.last | apply WRowsIn.there | apply WRowsIn.thereS)) _ (by omega))) rfl) ?_
    refine VL.r (.inl rfl) rfl (by decide) (yr_addN (n + 1) rfl rfl rfl (by push_cast; rfl) (by omega)) ?_
    refine VL.r (.inl rfl) rfl (by decide) (yr_nilCheck rfl rfl) ?_
    refine VL.r (.inl rfl) rfl (by decide) (yr_fieldAddr rfl Try.underlying152 rfl rfl sz3_R8 (by decide) rfl) ?_
    refine VL.s (.inl rfl) rfl (yc_store rfl sz3_R8 rfl rfl (by repeat (first | exact UpdF.here | apply UpdF.there | apply UpdF.thereS)) (.inl ⟨rfl, rfl⟩) rfl (by first | exact Nat.le_of_ble_eq_true rfl | simp) (by decide) rfl) ?_
    rintro ⟨⟩
    refine VL.nil ?_
    refine VE.then_wp ?_
    refine V.seq ?_
    refine V.region ?_
    refine VL.r (.inl rfl) rfl (by decide) (yr_move rfl rfl) ?_
    refine VL.r (.inl rfl) rfl (by decide) (yr_move rfl rfl) ?_
    refine VL.r (.inl rfl) rfl (by decide) (yr_nilCheck rfl rfl) ?_
    refine VL.r (.inl rfl) rfl (by decide) (yr_fieldAddr rfl Try.underlying152 rfl rfl sz150_R8 (by decide) rfl) ?_
    refine VL.q (.inl rfl) rfl (by decide) (yq_load rfl fb150_R8 rfl (by first | exact Sees.root (by assumption) | exact Sees.own (by repeat (first | exact List.mem_cons_self | exact List.mem_append_left _ (by assumption) | apply List.mem_cons_of_mem | apply List.mem_append_right)) | exact Sees.root (hR _ (by omega)) | exact Sees.own (RowsIn.mem (by repeat (first | exact RowsIn.here | exact RowsIn.last | apply RowsIn.there | apply RowsIn.thereS)) _ (by omega)) | exact Sees.own (WRowsIn.mem (by repeat (first | exact WRowsIn.here | exact WRowsIn.last | apply WRowsIn.there | apply WRowsIn.thereS)) _ (by omega))) rfl) ?_
    refine VL.r (.inl rfl) rfl (by decide) (yr_int rfl rfl rfl (.inr (.inr ⟨rfl, rfl⟩))) ?_
    refine VL.r (.inl rfl) rfl (by decide) (yr_move rfl rfl) ?_
    refine VL.r (.inl rfl) rfl (by decide) (yr_intConv rfl Try.underlying3 Try.underlying150 rfl rfl) ?_
    refine VL.r (.inl rfl) rfl (by decide) (yr_int rfl rfl rfl (.inl ⟨rfl, rfl⟩)) ?_
    refine VL.r (.inl rfl) rfl (by decide) (yr_int rfl rfl rfl (.inl ⟨rfl, u64_to _⟩)) ?_
    refine VL.r (.inl rfl) rfl (by decide) (yr_nilCheck rfl rfl) ?_
    refine VL.r (.inl rfl) rfl (by decide) (yr_fieldAddr rfl Try.underlying152 rfl rfl sz150_R8 (by decide) rfl) ?_
    refine VL.s (.inl rfl) rfl (yc_store rfl sz150_R8 rfl rfl (by repeat (first | exact UpdF.here | apply UpdF.there | apply UpdF.thereS)) (.inl ⟨rfl, rfl⟩) rfl (by first | exact Nat.le_of_ble_eq_true rfl | simp) (by decide) rfl) ?_
    rintro ⟨⟩
    refine VL.nil ?_
    refine VE.then_wp ?_
    refine V.seq ?_
    refine V.seq ?_
    refine V.draw [(0, 0), (1, 0), (2, 0), (3, 0), (4, 0), (5, 0), (6, 0), (7, 0), (8, 0), (9, 0)] mixed_R8 (by kernel_rfl) (by intro j o hj; simp at hj) ?_
    refine SW.r rfl (.inl rfl) rfl (by decide) (yr_move rfl rfl) ?_
    refine SW.r rfl (.inl rfl) rfl (by decide) (yr_nilCheck rfl rfl) ?_
    refine SW.r rfl (.inl rfl) rfl (by decide) (yr_fieldAddr rfl Try.underlying152 rfl rfl sz3_R8 (by decide) rfl) ?_
    refine SW.q rfl (.inl rfl) rfl (by decide) (yq_load rfl fb3_R8 rfl (by first | exact Sees.root (by assumption) | exact Sees.own (by repeat (first | exact List.mem_cons_self | exact List.mem_append_left _ (by assumption) | apply List.mem_cons_of_mem | apply List.mem_append_right)) | exact Sees.root (hR _ (by omega)) | exact Sees.own (RowsIn.mem (by repeat (first | exact RowsIn.here | exact RowsIn.last | apply RowsIn.there | apply RowsIn.thereS)) _ (by omega)) | exact Sees.own (WRowsIn.mem (by repeat (first | exact WRowsIn.here | exact WRowsIn.last | apply WRowsIn.there | apply WRowsIn.thereS)) _ (by omega))) rfl) ?_
    refine SW.r rfl (.inl rfl) rfl (by decide) (yr_move rfl rfl) ?_
    refine SW.r rfl (.inl rfl) rfl (by decide) (yr_nilCheck rfl rfl) ?_
    refine SW.r rfl (.inl rfl) rfl (by decide) (yr_fieldAddr rfl Try.underlying152 rfl rfl sz62_R8 (by decide) rfl) ?_
    refine SW.q rfl (.inl rfl) rfl (by decide) (yq_load rfl fb62_R8 rfl (by first | exact Sees.root (by assumption) | exact Sees.own (by repeat (first | exact List.mem_cons_self | exact List.mem_append_left _ (by assumption) | apply List.mem_cons_of_mem | apply List.mem_append_right)) | exact Sees.root (hR _ (by omega)) | exact Sees.own (RowsIn.mem (by repeat (first | exact RowsIn.here | exact RowsIn.last | apply RowsIn.there | apply RowsIn.thereS)) _ (by omega)) | exact Sees.own (WRowsIn.mem (by repeat (first | exact WRowsIn.here | exact WRowsIn.last | apply WRowsIn.there | apply WRowsIn.thereS)) _ (by omega))) rfl) ?_
    refine SW.r rfl (.inl rfl) rfl (by decide) (yr_len rfl Try.underlying62 rfl) ?_
    refine SW.r rfl (.inl rfl) rfl (by decide) (yr_icmp rfl (.inr (.inr (.inr (.inl rfl)))) rfl rfl) ?_
    refine SW.done ?_
    refine VE.then_wp ?_
    refine V.cond rfl (fun h3 => ?_) (fun h3 => ?_)
    · skip
      replace h3 := ic_leq h3
      exfalso; omega
    · skip
      replace h3 := ic_leq' h3
      refine V.skip ?_
      refine VE.then_wp ?_
      refine V.seq ?_
      refine V.region ?_
      refine VL.r (.inl rfl) rfl (by decide) (yr_move rfl rfl) ?_
      refine VL.r (.inl rfl) rfl (by decide) (yr_nilCheck rfl rfl) ?_
      refine VL.r (.inl rfl) rfl (by decide) (yr_fieldAddr rfl Try.underlying152 rfl rfl sz150_R8 (by decide) rfl) ?_
      refine VL.q (.inl rfl) rfl (by decide) (yq_load rfl fb150_R8 rfl (by first | exact Sees.root (by assumption) | exact Sees.own (by repeat (first | exact List.mem_cons_self | exact List.mem_append_left _ (by assumption) | apply List.mem_cons_of_mem | apply List.mem_append_right)) | exact Sees.root (hR _ (by omega)) | exact Sees.own (RowsIn.mem (by repeat (first | exact RowsIn.here | exact RowsIn.last | apply RowsIn.there | apply RowsIn.thereS)) _ (by omega)) | exact Sees.own (WRowsIn.mem (by repeat (first | exact WRowsIn.here | exact WRowsIn.last | apply WRowsIn.there | apply WRowsIn.thereS)) _ (by omega))) rfl) ?_
      refine VL.r (.inl rfl) rfl (by decide) (yr_shr (b := 40) rfl rfl rfl rfl) ?_
      refine VL.r (.inl rfl) rfl (by decide) (yr_bits rfl rfl rfl (.inl ⟨rfl, and255u _⟩)) ?_
      refine VL.r (.inl rfl) rfl (by decide) (yr_intConv rfl Try.underlying150 Try.underlying2 rfl (wrap_in (by omega))) ?_
      refine VL.r (.inl rfl) rfl (by decide) (yr_assign rfl rfl) ?_
      refine VL.nil ?_
      refine VE.then_wp ?_
      refine V.ret ?_
      refine ret1 rfl rfl (fun w1 hw => ?_)
      first
        | exact ⟨⟨((bs.getD n 0).toNat, uw _), by show (bs.getD n 0).toNat < 256; omega, uw_lt _⟩, by show Value.int .i64 (bs.getD n 0) = .int .i64 (((bs.getD n 0).toNat : Nat) : Int); rw [Int.toNat_of_nonneg hbn.1], hw⟩
        | exact ⟨⟨((_ % 256 : Int).toNat, uw _), by show (_ % 256 : Int).toNat < 256; omega, uw_lt _⟩, rfl, hw⟩

theorem c_pick {w0 : World} {a : Option Addr} {c q n sd : Nat} {bs : List Int} {m : Nat} (hA : Cl w0 a (bl bs)) (hb : Bytes bs) (hl : bs.length ≤ 2000000) (hn : n ≤ 100000) (hsd : sd < 18446744073709551616) (hm2 : 2 ≤ m) (hm3 : m ≤ 200) : Mut Try.prog 97 [.pointer (some (adr (some ⟨q, 0, none⟩) 0)), .int .i64 (m : Int)] w0 [⟨some ⟨q, 0, none⟩, [.slice a bs.length c, .int .i64 ((n : Nat) : Int), .int .u64 ((sd : Nat) : Int)], 3, 152⟩] (fun x : {x : Nat × Nat // x.1 < m ∧ x.2 < 18446744073709551616} => .int .i64 ((x.1.1 : Nat) : Int)) (fun x => [⟨some ⟨q, 0, none⟩, [.slice a bs.length c, .int .i64 ((n + 1 : Nat) : Int), .int .u64 ((x.1.2 : Nat) : Int)], 3, 152⟩]) := by
  refine Mut.enter Try.func97 rfl Try.ntmps97 (Nat.le_of_ble_eq_true rfl) ?_
  intro F
  refine V.seq ?_
  refine V.region ?_
  refine VL.r (.inl rfl) rfl (by decide) (yr_assign (u := .int .i64 0) rfl rfl) ?_
  refine VL.nil ?_
  refine VE.then_wp ?_
  refine V.seq ?_
  refine V.seq ?_
  refine V.region ?_
  refine VL.r (.inl rfl) rfl (by decide) (yr_move rfl rfl) ?_
  refine VL.r (.inl rfl) rfl (by decide) (yr_icmp rfl (.inr (.inr (.inr (.inl rfl)))) rfl rfl) ?_
  refine VL.nil ?_
  refine VE.then_wp ?_
  refine V.cond rfl (fun h1 => ?_) (fun h1 => ?_)
  · skip
    replace h1 := ic_leq h1
    exfalso; omega
  · skip
    replace h1 := ic_leq' h1
    refine V.skip ?_
    refine VE.then_wp ?_
    refine V.seq ?_
    refine V.region ?_
    refine VL.r (.inl rfl) rfl (by decide) (yr_move rfl rfl) ?_
    refine VL.c (.inl rfl) rfl (by decide) (yc_callf rfl known142_R8 (.cons rfl .nil) (by apply Pick.one; repeat (first | exact Rem.here | apply Rem.there | apply Rem.thereS)) (c_next hA hb (by omega) (by omega) (by omega))) ?_
    rintro ⟨⟨x9, s9⟩, hx9, hs9⟩
    dsimp only at hx9 hs9
    refine VL.r (.inl rfl) rfl (by decide) (yr_assign rfl rfl) ?_
    refine VL.nil ?_
    refine VE.then_wp ?_
    refine V.seq ?_
    refine V.seq ?_
    refine V.region ?_
    refine VL.r (.inl rfl) rfl (by decide) (yr_move rfl rfl) ?_
    refine VL.r (.inl rfl) rfl (by decide) (yr_icmp rfl (.inr (.inr (.inr (.inr (.inl rfl))))) rfl rfl) ?_
    refine VL.nil ?_
    refine VE.then_wp ?_
    refine V.cond rfl (fun h2 => ?_) (fun h2 => ?_)
    · skip
      replace h2 := ic_gtr h2
      exfalso; omega
    · skip
      replace h2 := ic_gtr' h2
      refine V.skip ?_
      refine VE.then_wp ?_
      refine V.seq ?_
      refine V.region ?_
      refine VL.r (.inl rfl) rfl (by decide) (yr_move rfl rfl) ?_
      refine VL.r (.inl rfl) rfl (by decide) (yr_move rfl rfl) ?_
      refine VL.r (.inl rfl) rfl (by decide) (yr_remN x9 m rfl rfl rfl rfl rfl (by omega)) ?_
      refine VL.r (.inl rfl) rfl (by decide) (yr_assign rfl rfl) ?_
      refine VL.nil ?_
      refine VE.then_wp ?_
      refine V.ret ?_
      refine ret1 rfl rfl (fun w1 hw => ?_)
      exact ⟨⟨(x9 % m, s9), Nat.mod_lt _ (by omega), hs9⟩, rfl, hw.perm' (by rw [List.append_nil]; exact List.perm_append_comm)⟩

theorem c_from {w : World} {a : Option Addr} {c : Nat} {bs : List Int} : New Try.prog 95 [.slice a bs.length c] w (fun p : Nat => .pointer (some (adr (some ⟨p, 0, none⟩) 0))) (fun p => [⟨some ⟨p, 0, none⟩, [.slice a bs.length c, .int .i64 ((0 : Nat) : Int), .int .u64 ((0 : Nat) : Int)], 3, 152⟩]) := by
  refine New.enter Try.func95 rfl Try.ntmps95 (Nat.le_of_ble_eq_true rfl) ?_
  refine V.seq ?_
  refine V.region ?_
  refine VL.r (.inl rfl) rfl (by decide) (yr_assign (u := .pointer none) rfl rfl) ?_
  refine VL.nil ?_
  refine VE.then_wp ?_
  refine V.seq ?_
  refine V.region ?_
  refine VL.r (.inl rfl) rfl (by decide) (yr_move rfl rfl) ?_
  refine VL.r (.inl rfl) rfl (by decide) (yr_build rfl lay152_R8 rfl (.cons rfl .nil) (by first | (simp; done) | (simp [vv]; done) | (simp [cn, cn1, cn0]; done)) rfl) ?_
  refine VL.new1 (.inl rfl) rfl (by decide) (yn_box rfl rfl (.inr ⟨rfl, rfl⟩)) ?_
  intro b5
  refine VL.r (.inl rfl) rfl (by decide) (yr_assign rfl rfl) ?_
  refine VL.nil ?_
  refine VE.then_wp ?_
  refine V.ret ?_
  refine ret1 rfl rfl (fun w1 hw => ?_)
  exact ⟨b5, rfl, hw.out1⟩

theorem c_r8Mesh {w : World} {a : Option Addr} {c : Nat} {bs : List Int} (hA : Cl w a (bl bs)) (hb : Bytes bs) (hl : bs.length ≤ 2000000) : New Try.prog 42 [.slice a bs.length c] w (fun x : {x : DM // x.ok} => x.1.v) (fun x => [⟨x.1.ar, vl x.1.vs, x.1.cr * 3, 27⟩]) := by
  refine New.enter Try.func42 rfl Try.ntmps42 (Nat.le_of_ble_eq_true rfl) ?_
  refine V.seq ?_
  refine V.region ?_
  refine VL.new1 (.inl rfl) rfl (by decide) (yn_alloc rfl zero30_R8 rfl) ?_
  intro b2
  refine VL.nil ?_
  refine VE.then_wp ?_
  refine V.seq ?_
  refine V.region ?_
  refine VL.r (.inl rfl) rfl (by decide) (yr_move rfl rfl) ?_
  refine VL.new1 (.inl rfl) rfl (by decide) (yn_callf rfl known95_R8 (.cons rfl .nil) (fun w hw => c_from)) ?_
  intro b8
  refine VL.r (.inl rfl) rfl (by decide) (yr_assign rfl rfl) ?_
  refine VL.nil ?_
  refine VE.then_wp ?_
  refine V.seq ?_
  refine V.region ?_
  refine VL.new1 (.inl rfl) rfl (by decide) (yn_buildSlice rfl Try.underlying28 elt27_R8 rfl (by decide) .nil (by first | (simp; done) | (simp [vv]; done)) rfl rfl) ?_
  intro b9
  refine VL.r (.inl rfl) rfl (by decide) (yr_build rfl lay30_R8 rfl (.cons rfl (.cons rfl .nil)) (by first | (simp; done) | (simp [vv]; done) | (simp [cn, cn1, cn0]; done)) rfl) ?_
  refine VL.new1 (.inl rfl) rfl (by decide) (yn_alloc rfl zero30_R8 rfl) ?_
  intro b4
  refine VL.s (.inl rfl) rfl (yc_store rfl sz30_R8 rfl rfl (by repeat (first | exact UpdF.here | apply UpdF.there | apply UpdF.thereS)) (.inr ⟨rfl, rfl⟩) rfl (by first | exact Nat.le_of_ble_eq_true rfl | simp) (by decide) rfl) ?_
  rintro ⟨⟩
  refine VL.nil ?_
  refine VE.then_wp ?_
  refine V.seq ?_
  refine V.region ?_
  refine VL.r (.inl rfl) rfl (by decide) (yr_move rfl rfl) ?_
  refine VL.c (.inl rfl) rfl (by decide) (yc_callf rfl known97_R8 (.cons rfl (.cons rfl .nil)) (by apply Pick.one; repeat (first | exact Rem.here | apply Rem.there | apply Rem.thereS)) (c_pick (m := 9) hA hb (by omega) (by omega) (by omega) (by decide) (by decide))) ?_
  rintro ⟨⟨x12, s12⟩, hx12, hs12⟩
  dsimp only at hx12 hs12
  refine VL.r (.inl rfl) rfl (by decide) (yr_int rfl rfl rfl (.inr (.inl ⟨rfl, wrap_in (by dsimp only; omega)⟩))) ?_
  refine VL.r (.inl rfl) rfl (by decide) (yr_ofInt rfl Try.underlying2 Try.underlying23 rfl) ?_
  refine VL.r (.inl rfl) rfl (by decide) (show YR _ _ _ (.float .f32 (hqw x12)) from (by unfold hqw; exact yr_float rfl (.inr (.inr (.inr rfl))) rfl rfl)) ?_
  refine VL.r (.inl rfl) rfl (by decide) (yr_build rfl lay27_R8 rfl (.cons rfl .nil) (by first | (simp; done) | (simp [vv]; done) | (simp [cn, cn1, cn0]; done)) rfl) ?_
  refine VL.r (.inl rfl) rfl (by decide) (yr_fieldAddr rfl Try.underlying30 rfl rfl sz27_R8 (by decide) rfl) ?_
  refine VL.s (.inl rfl) rfl (yc_store rfl sz27_R8 rfl rfl (by repeat (first | exact UpdF.here | apply UpdF.there | apply UpdF.thereS)) (.inr ⟨rfl, rfl⟩) rfl (by first | exact Nat.le_of_ble_eq_true rfl | simp) (by decide) rfl) ?_
  rintro ⟨⟩
  refine VL.nil ?_
  refine VE.then_wp ?_
  refine V.seq ?_
  refine V.region ?_
  refine VL.r (.inl rfl) rfl (by decide) (yr_move rfl rfl) ?_
  refine VL.c (.inl rfl) rfl (by decide) (yc_callf rfl known97_R8 (.cons rfl (.cons rfl .nil)) (by apply Pick.one; repeat (first | exact Rem.here | apply Rem.there | apply Rem.thereS)) (c_pick (m := 4) hA hb (by omega) (by omega) (by omega) (by decide) (by decide))) ?_
  rintro ⟨⟨x19, s19⟩, hx19, hs19⟩
  dsimp only at hx19 hs19
  refine VL.r (.inl rfl) rfl (by decide) (yr_addN (1 + x19) rfl rfl rfl (by push_cast; rfl) (by omega)) ?_
  refine VL.r (.inl rfl) rfl (by decide) (yr_fieldAddr rfl Try.underlying30 rfl rfl sz2_R8 (by decide) rfl) ?_
  refine VL.s (.inl rfl) rfl (yc_store rfl sz2_R8 rfl rfl (by repeat (first | exact UpdF.here | apply UpdF.there | apply UpdF.thereS)) (.inl ⟨rfl, rfl⟩) rfl (by first | exact Nat.le_of_ble_eq_true rfl | simp) (by decide) rfl) ?_
  rintro ⟨⟩
  refine VL.nil ?_
  refine VE.then_wp ?_
  refine V.seq ?_
  refine V.region ?_
  refine VL.r (.inl rfl) rfl (by decide) (yr_move rfl rfl) ?_
  refine VL.c (.inl rfl) rfl (by decide) (yc_callf rfl known97_R8 (.cons rfl (.cons rfl .nil)) (by apply Pick.one; repeat (first | exact Rem.here | apply Rem.there | apply Rem.thereS)) (c_pick (m := 4) hA hb (by omega) (by omega) (by omega) (by decide) (by decide))) ?_
  rintro ⟨⟨x23, s23⟩, hx23, hs23⟩
  dsimp only at hx23 hs23
  refine VL.r (.inl rfl) rfl (by decide) (yr_addN (1 + x23) rfl rfl rfl (by push_cast; rfl) (by omega)) ?_
  refine VL.r (.inl rfl) rfl (by decide) (yr_fieldAddr rfl Try.underlying30 rfl rfl sz2_R8 (by decide) rfl) ?_
  refine VL.s (.inl rfl) rfl (yc_store rfl sz2_R8 rfl rfl (by repeat (first | exact UpdF.here | apply UpdF.there | apply UpdF.thereS)) (.inl ⟨rfl, rfl⟩) rfl (by first | exact Nat.le_of_ble_eq_true rfl | simp) (by decide) rfl) ?_
  rintro ⟨⟩
  refine VL.nil ?_
  refine VE.then_wp ?_
  refine V.seq ?_
  refine V.region ?_
  refine VL.r (.inl rfl) rfl (by decide) (yr_move rfl rfl) ?_
  refine VL.c (.inl rfl) rfl (by decide) (yc_callf rfl known97_R8 (.cons rfl (.cons rfl .nil)) (by apply Pick.one; repeat (first | exact Rem.here | apply Rem.there | apply Rem.thereS)) (c_pick (m := 3) hA hb (by omega) (by omega) (by omega) (by decide) (by decide))) ?_
  rintro ⟨⟨x27, s27⟩, hx27, hs27⟩
  dsimp only at hx27 hs27
  refine VL.r (.inl rfl) rfl (by decide) (yr_addN (1 + x27) rfl rfl rfl (by push_cast; rfl) (by omega)) ?_
  refine VL.r (.inl rfl) rfl (by decide) (yr_fieldAddr rfl Try.underlying30 rfl rfl sz2_R8 (by decide) rfl) ?_
  refine VL.s (.inl rfl) rfl (yc_store rfl sz2_R8 rfl rfl (by repeat (first | exact UpdF.here | apply UpdF.there | apply UpdF.thereS)) (.inl ⟨rfl, rfl⟩) rfl (by first | exact Nat.le_of_ble_eq_true rfl | simp) (by decide) rfl) ?_
  rintro ⟨⟩
  refine VL.nil ?_
  refine VE.then_wp ?_
  refine V.seq ?_
  refine V.seq ?_
  refine V.region ?_
  refine VL.r (.inl rfl) rfl (by decide) (yr_fieldAddr rfl Try.underlying30 rfl rfl sz2_R8 (by decide) rfl) ?_
  refine VL.q (.inl rfl) rfl (by decide) (yq_load rfl fb2_R8 rfl (by first | exact Sees.root (by assumption) | exact Sees.own (by repeat (first | exact List.mem_cons_self | exact List.mem_append_left _ (by assumption) | apply List.mem_cons_of_mem | apply List.mem_append_right)) | exact Sees.root (hR _ (by omega)) | exact Sees.own (RowsIn.mem (by repeat (first | exact RowsIn.here | exact RowsIn.last | apply RowsIn.there | apply RowsIn.thereS)) _ (by omega)) | exact Sees.own (WRowsIn.mem (by repeat (first | exact WRowsIn.here | exact WRowsIn.last | apply WRowsIn.there | apply WRowsIn.thereS)) _ (by omega))) rfl) ?_
  refine VL.r (.inl rfl) rfl (by decide) (yr_fieldAddr rfl Try.underlying30 rfl rfl sz2_R8 (by decide) rfl) ?_
  refine VL.q (.inl rfl) rfl (by decide) (yq_load rfl fb2_R8 rfl (by first | exact Sees.root (by assumption) | exact Sees.own (by repeat (first | exact List.mem_cons_self | exact List.mem_append_left _ (by assumption) | apply List.mem_cons_of_mem | apply List.mem_append_right)) | exact Sees.root (hR _ (by omega)) | exact Sees.own (RowsIn.mem (by repeat (first | exact RowsIn.here | exact RowsIn.last | apply RowsIn.there | apply RowsIn.thereS)) _ (by omega)) | exact Sees.own (WRowsIn.mem (by repeat (first | exact WRowsIn.here | exact WRowsIn.last | apply WRowsIn.there | apply WRowsIn.thereS)) _ (by omega))) rfl) ?_
  refine VL.r (.inl rfl) rfl (by decide) (yr_mulN (1 + x19) (1 + x23) rfl rfl rfl rfl rfl (Nat.le_trans (sz48 (W := 1 + x19) (H := 1 + x23) (D := 1 + x27) (by omega) (by omega) (by omega)).1 (by decide))) ?_
  refine VL.r (.inl rfl) rfl (by decide) (yr_fieldAddr rfl Try.underlying30 rfl rfl sz2_R8 (by decide) rfl) ?_
  refine VL.q (.inl rfl) rfl (by decide) (yq_load rfl fb2_R8 rfl (by first | exact Sees.root (by assumption) | exact Sees.own (by repeat (first | exact List.mem_cons_self | exact List.mem_append_left _ (by assumption) | apply List.mem_cons_of_mem | apply List.mem_append_right)) | exact Sees.root (hR _ (by omega)) | exact Sees.own (RowsIn.mem (by repeat (first | exact RowsIn.here | exact RowsIn.last | apply RowsIn.there | apply RowsIn.thereS)) _ (by omega)) | exact Sees.own (WRowsIn.mem (by repeat (first | exact WRowsIn.here | exact WRowsIn.last | apply WRowsIn.there | apply WRowsIn.thereS)) _ (by omega))) rfl) ?_
  refine VL.r (.inl rfl) rfl (by decide) (yr_mulN ((1 + x19) * (1 + x23)) (1 + x27) rfl rfl rfl rfl rfl (Nat.le_trans (sz48 (W := 1 + x19) (H := 1 + x23) (D := 1 + x27) (by omega) (by omega) (by omega)).2 (by decide))) ?_
  refine VL.r (.inl rfl) rfl (by decide) (yr_assign rfl rfl) ?_
  refine VL.nil ?_
  refine VE.then_wp ?_
  refine V.block ?_
  refine V.loopc (G := (List V3) × (Option Addr) × Nat × Nat × Nat) [(2, _), (3, _), (4, _)] (fun ⟨vs, ar, cr, nn, sd⟩ => vs.length ≤ ((1 + x19) * (1 + x23) * (1 + x27)) ∧ (∀ v ∈ vs, Q3 v) ∧ nn ≤ 4 + 3 * vs.length ∧ sd < 18446744073709551616) (fun ⟨vs, ar, cr, nn, sd⟩ => [⟨some ⟨b8, 0, none⟩, [.slice a bs.length c, .int .i64 ((nn : Nat) : Int), .int .u64 ((sd : Nat) : Int)], 3, 152⟩, ⟨some ⟨b4, 0, none⟩, [.float .f32 (hqw x12), .float .f32 0, .float .f32 0, .float .f32 1056964608, .int .i64 (((1 + x19) : Nat) : Int), .int .i64 (((1 + x23) : Nat) : Int), .int .i64 (((1 + x27) : Nat) : Int), .slice ar vs.length cr], 8, 30⟩, ⟨ar, vl vs, cr * 3, 27⟩, ⟨some ⟨b2, 0, none⟩, [.float .f32 0, .float .f32 0, .float .f32 0, .float .f32 0, .int .i64 0, .int .i64 0, .int .i64 0, .slice none 0 0], 8, 30⟩]) (fun ⟨vs, ar, cr, nn, sd⟩ => [(5, .int .i64 ((((1 + x19) * (1 + x23) * (1 + x27)) - vs.length : Nat) : Int))]) (fun ⟨vs, ar, cr, nn, sd⟩ => ((1 + x19) * (1 + x23) * (1 + x27)) - vs.length) ([], some ⟨b9, 0, none⟩, 0, 0 + 1 + 1 + 1 + 1, s27) (.cons rfl (.cons rfl (.cons rfl .nil))) (.cons rfl .nil) ?_ ?_ ?_
  · exact (fun w hw => hw.pick (by apply Pick.e4; all_goals (repeat (first | exact Rem.here | apply Rem.there))))
  · exact (by exact ⟨Nat.zero_le _, fun v hv => (by cases hv), by decide, hs27⟩)
  rintro ⟨vs, ar, cr, nn, sd⟩ ⟨hl9, hq9, hn9, hs9⟩
  show V _ _ _ [⟨some ⟨b8, 0, none⟩, [.slice a bs.length c, .int .i64 ((nn : Nat) : Int), .int .u64 ((sd : Nat) : Int)], 3, 152⟩, ⟨some ⟨b4, 0, none⟩, [.float .f32 (hqw x12), .float .f32 0, .float .f32 0, .float .f32 1056964608, .int .i64 (((1 + x19) : Nat) : Int), .int .i64 (((1 + x23) : Nat) : Int), .int .i64 (((1 + x27) : Nat) : Int), .slice ar vs.length cr], 8, 30⟩, ⟨ar, vl vs, cr * 3, 27⟩, ⟨some ⟨b2, 0, none⟩, [.float .f32 0, .float .f32 0, .float .f32 0, .float .f32 0, .int .i64 0, .int .i64 0, .int .i64 0, .slice none 0 0], 8, 30⟩] ([(5, .int .i64 ((((1 + x19) * (1 + x23) * (1 + x27)) - vs.length : Nat) : Int))] ++ [(2, _), (3, _), (4, _)]) _ _
  obtain ⟨hz1, hz2⟩ := sz48 (W := 1 + x19) (H := 1 + x23) (D := 1 + x27) (by omega) (by omega) (by omega)
  refine V.seq ?_
  refine V.seq ?_
  refine V.region ?_
  refine VL.r (.inl rfl) rfl (by decide) (yr_move rfl rfl) ?_
  refine VL.r (.inl rfl) rfl (by decide) (yr_icmp rfl (.inr (.inr (.inr (.inr (.inl rfl))))) rfl rfl) ?_
  refine VL.nil ?_
  refine VE.then_wp ?_
  refine V.cond rfl (fun h1 => ?_) (fun h1 => ?_)
  · skip
    replace h1 := ic_gtr h1
    refine V.skip ?_
    refine VE.then_wp ?_
    refine V.seq ?_
    refine V.block ?_
    refine V.seq ?_
    refine V.region ?_
    refine VL.r (.inl rfl) rfl (by decide) (yr_move rfl rfl) ?_
    refine VL.c (.inl rfl) rfl (by decide) (yc_callf rfl known97_R8 (.cons rfl (.cons rfl .nil)) (by apply Pick.one; repeat (first | exact Rem.here | apply Rem.there | apply Rem.thereS)) (c_pick (m := 17) hA hb (by omega) (by omega) (by omega) (by decide) (by decide))) ?_
    rintro ⟨⟨x43, s43⟩, hx43, hs43⟩
    dsimp only at hx43 hs43
    refine VL.r (.inl rfl) rfl (by decide) (yr_int rfl rfl rfl (.inr (.inl ⟨rfl, wrap_in (by (try dsimp only); omega)⟩))) ?_
    refine VL.r (.inl rfl) rfl (by decide) (yr_ofInt rfl Try.underlying2 Try.underlying23 rfl) ?_
    refine VL.r (.inl rfl) rfl (by decide) (show YR _ _ _ (.float .f32 (qw x43)) from (by unfold qw; exact yr_float rfl (.inr (.inr (.inr rfl))) rfl rfl)) ?_
    refine VL.r (.inl rfl) rfl (by decide) (yr_build rfl lay27_R8 rfl (.cons rfl .nil) (by first | (simp; done) | (simp [vv]; done) | (simp [cn, cn1, cn0]; done)) rfl) ?_
    refine VL.new1 (.inl rfl) rfl (by decide) (yn_alloc rfl zero27_R8 rfl) ?_
    intro b6
    refine VL.s (.inl rfl) rfl (yc_store rfl sz27_R8 rfl rfl (by repeat (first | exact UpdF.here | apply UpdF.there | apply UpdF.thereS)) (.inr ⟨rfl, rfl⟩) rfl (by first | exact Nat.le_of_ble_eq_true rfl | simp) (by decide) rfl) ?_
    rintro ⟨⟩
    refine VL.nil ?_
    refine VE.then_wp ?_
    refine V.seq ?_
    refine V.region ?_
    refine VL.r (.inl rfl) rfl (by decide) (yr_move rfl rfl) ?_
    refine VL.c (.inl rfl) rfl (by decide) (yc_callf rfl known97_R8 (.cons rfl (.cons rfl .nil)) (by apply Pick.one; repeat (first | exact Rem.here | apply Rem.there | apply Rem.thereS)) (c_pick (m := 17) hA hb (by omega) (by omega) (by omega) (by decide) (by decide))) ?_
    rintro ⟨⟨x49, s49⟩, hx49, hs49⟩
    dsimp only at hx49 hs49
    refine VL.r (.inl rfl) rfl (by decide) (yr_int rfl rfl rfl (.inr (.inl ⟨rfl, wrap_in (by (try dsimp only); omega)⟩))) ?_
    refine VL.r (.inl rfl) rfl (by decide) (yr_ofInt rfl Try.underlying2 Try.underlying23 rfl) ?_
    refine VL.r (.inl rfl) rfl (by decide) (show YR _ _ _ (.float .f32 (qw x49)) from (by unfold qw; exact yr_float rfl (.inr (.inr (.inr rfl))) rfl rfl)) ?_
    refine VL.r (.inl rfl) rfl (by decide) (yr_fieldAddr rfl Try.underlying27 rfl rfl sz23_R8 (by decide) rfl) ?_
    refine VL.s (.inl rfl) rfl (yc_store rfl sz23_R8 rfl rfl (by repeat (first | exact UpdF.here | apply UpdF.there | apply UpdF.thereS)) (.inl ⟨rfl, rfl⟩) rfl (by first | exact Nat.le_of_ble_eq_true rfl | simp) (by decide) rfl) ?_
    rintro ⟨⟩
    refine VL.nil ?_
    refine VE.then_wp ?_
    refine V.seq ?_
    refine V.region ?_
    refine VL.r (.inl rfl) rfl (by decide) (yr_move rfl rfl) ?_
    refine VL.c (.inl rfl) rfl (by decide) (yc_callf rfl known97_R8 (.cons rfl (.cons rfl .nil)) (by apply Pick.one; repeat (first | exact Rem.here | apply Rem.there | apply Rem.thereS)) (c_pick (m := 17) hA hb (by omega) (by omega) (by omega) (by decide) (by decide))) ?_
    rintro ⟨⟨x55, s55⟩, hx55, hs55⟩
    dsimp only at hx55 hs55
    refine VL.r (.inl rfl) rfl (by decide) (yr_int rfl rfl rfl (.inr (.inl ⟨rfl, wrap_in (by (try dsimp only); omega)⟩))) ?_
    refine VL.r (.inl rfl) rfl (by decide) (yr_ofInt rfl Try.underlying2 Try.underlying23 rfl) ?_
    refine VL.r (.inl rfl) rfl (by decide) (show YR _ _ _ (.float .f32 (qw x55)) from (by unfold qw; exact yr_float rfl (.inr (.inr (.inr rfl))) rfl rfl)) ?_
    refine VL.r (.inl rfl) rfl (by decide) (yr_fieldAddr rfl Try.underlying27 rfl rfl sz23_R8 (by decide) rfl) ?_
    refine VL.s (.inl rfl) rfl (yc_store rfl sz23_R8 rfl rfl (by repeat (first | exact UpdF.here | apply UpdF.there | apply UpdF.thereS)) (.inl ⟨rfl, rfl⟩) rfl (by first | exact Nat.le_of_ble_eq_true rfl | simp) (by decide) rfl) ?_
    rintro ⟨⟩
    refine VL.nil ?_
    refine VE.then_wp ?_
    refine V.region ?_
    refine VL.r (.inl rfl) rfl (by decide) (yr_fieldAddr rfl Try.underlying30 rfl rfl sz28_R8 (by decide) rfl) ?_
    refine VL.q (.inl rfl) rfl (by decide) (yq_load rfl fb28_R8 rfl (by first | exact Sees.root (by assumption) | exact Sees.own (by repeat (first | exact List.mem_cons_self | exact List.mem_append_left _ (by assumption) | apply List.mem_cons_of_mem | apply List.mem_append_right)) | exact Sees.root (hR _ (by omega)) | exact Sees.own (RowsIn.mem (by repeat (first | exact RowsIn.here | exact RowsIn.last | apply RowsIn.there | apply RowsIn.thereS)) _ (by omega)) | exact Sees.own (WRowsIn.mem (by repeat (first | exact WRowsIn.here | exact WRowsIn.last | apply WRowsIn.there | apply WRowsIn.thereS)) _ (by omega))) rfl) ?_
    refine VL.q (.inl rfl) rfl (by decide) (yq_loadS rfl Try.underlying27 sz27_R8 rfl (by first | exact Sees.root (by assumption) | exact Sees.own (by repeat (first | exact List.mem_cons_self | exact List.mem_append_left _ (by assumption) | apply List.mem_cons_of_mem | apply List.mem_append_right)) | exact Sees.root (hR _ (by omega)) | exact Sees.own (RowsIn.mem (by repeat (first | exact RowsIn.here | exact RowsIn.last | apply RowsIn.there | apply RowsIn.thereS)) _ (by omega)) | exact Sees.own (WRowsIn.mem (by repeat (first | exact WRowsIn.here | exact WRowsIn.last | apply WRowsIn.there | apply WRowsIn.thereS)) _ (by omega))) rfl rfl rfl) ?_
    refine VL.new1 (.inl rfl) rfl (by decide) (yn_buildSlice rfl Try.underlying28 elt27_R8 rfl (by decide) (.cons rfl .nil) (by first | (simp; done) | (simp [vv]; done)) rfl rfl) ?_
    intro b63
    refine VL.c (.inl rfl) rfl (by decide) (yc_appendz 3 rfl rfl Try.underlying28 elt27_R8 rfl rfl (by repeat (first | exact UpdF.here | apply UpdF.there | apply UpdF.thereS)) (by first | exact Sees.root (by assumption) | exact Sees.own (by repeat (first | exact List.mem_cons_self | exact List.mem_append_left _ (by assumption) | apply List.mem_cons_of_mem | apply List.mem_append_right)) | exact Sees.root (hR _ (by omega)) | exact Sees.own (RowsIn.mem (by repeat (first | exact RowsIn.here | exact RowsIn.last | apply RowsIn.there | apply RowsIn.thereS)) _ (by omega)) | exact Sees.own (WRowsIn.mem (by repeat (first | exact WRowsIn.here | exact WRowsIn.last | apply WRowsIn.there | apply WRowsIn.thereS)) _ (by omega))) rfl (by rw [vl_length]) rfl (vl_scal _) rfl (by omega) (by omega)) ?_
    rintro ⟨a64, c64⟩
    refine VL.r (.inl rfl) rfl (by decide) (yr_fieldAddr rfl Try.underlying30 rfl rfl sz28_R8 (by decide) rfl) ?_
    refine VL.s (.inl rfl) rfl (yc_store rfl sz28_R8 rfl rfl (by repeat (first | exact UpdF.here | apply UpdF.there | apply UpdF.thereS)) (.inl ⟨rfl, rfl⟩) rfl (by first | exact Nat.le_of_ble_eq_true rfl | simp) (by decide) rfl) ?_
    rintro ⟨⟩
    refine VL.nil ?_
    refine VE.block_normal ?_
    refine VE.then_wp ?_
    refine V.region ?_
    refine VL.r (.inl rfl) rfl (by decide) (yr_move rfl rfl) ?_
    refine VL.r (.inl rfl) rfl (by decide) (yr_int rfl rfl rfl (.inr (.inl ⟨rfl, wrap_in (by (try dsimp only); omega)⟩))) ?_
    refine VL.r (.inl rfl) rfl (by decide) (yr_assign rfl rfl) ?_
    refine VL.nil ?_
    refine VE.round (vs ++ [(qw x43, qw x49, qw x55)], a64, c64, nn + 1 + 1 + 1, s55) ?_ ?_ ?_ ?_ ?_
    · exact (.cons (congrArg (fun i => some (Value.int .i64 i)) (by rw [List.length_append]; show _ = ((((1 + x19) * (1 + x23) * (1 + x27)) - (vs.length + 1) : Nat) : Int); omega)) .nil)
    · exact (.cons rfl (.cons rfl (.cons rfl .nil)))
    · exact (fun w hw => by dsimp only; rw [← vl_snoc, List.length_append]; exact hw.pick (by apply Pick.e4; all_goals (repeat (first | exact Rem.here | apply Rem.there))))
    · dsimp only
      rw [List.length_append]
      exact ⟨by show vs.length + 1 ≤ ((1 + x19) * (1 + x23) * (1 + x27)); omega, q3_snoc hq9 hx43 hx49 hx55, by show nn + 1 + 1 + 1 ≤ 4 + 3 * (vs.length + 1); omega, hs55⟩
    · dsimp only; rw [List.length_append]; show ((1 + x19) * (1 + x23) * (1 + x27)) - (vs.length + 1) < ((1 + x19) * (1 + x23) * (1 + x27)) - vs.length; omega
  · skip
    replace h1 := ic_gtr' h1
    have hl8 : vs.length = ((1 + x19) * (1 + x23) * (1 + x27)) := by omega
    refine V.exit ?_
    refine VE.then_exit ?_
    refine VE.then_exit ?_
    refine VE.block_here ?_
    refine VE.then_wp ?_
    refine V.seq ?_
    refine V.region ?_
    refine VL.q (.inl rfl) rfl (by decide) (yq_loadS rfl Try.underlying30 sz30_R8 rfl (by first | exact Sees.root (by assumption) | exact Sees.own (by repeat (first | exact List.mem_cons_self | exact List.mem_append_left _ (by assumption) | apply List.mem_cons_of_mem | apply List.mem_append_right)) | exact Sees.root (hR _ (by omega)) | exact Sees.own (RowsIn.mem (by repeat (first | exact RowsIn.here | exact RowsIn.last | apply RowsIn.there | apply RowsIn.thereS)) _ (by omega)) | exact Sees.own (WRowsIn.mem (by repeat (first | exact WRowsIn.here | exact WRowsIn.last | apply WRowsIn.there | apply WRowsIn.thereS)) _ (by omega))) rfl rfl rfl) ?_
    refine VL.s (.inl rfl) rfl (yc_store rfl sz30_R8 rfl rfl (by repeat (first | exact UpdF.here | apply UpdF.there | apply UpdF.thereS)) (.inr ⟨rfl, rfl⟩) rfl (by first | exact Nat.le_of_ble_eq_true rfl | simp) (by decide) rfl) ?_
    rintro ⟨⟩
    refine VL.nil ?_
    refine VE.then_wp ?_
    refine V.ret ?_
    refine retC rfl (rv_cellS rfl Try.underlying30 sz30_R8 (by first | exact Sees.root (by assumption) | exact Sees.own (by repeat (first | exact List.mem_cons_self | exact List.mem_append_left _ (by assumption) | apply List.mem_cons_of_mem | apply List.mem_append_right)) | exact Sees.root (hR _ (by omega)) | exact Sees.own (RowsIn.mem (by repeat (first | exact RowsIn.here | exact RowsIn.last | apply RowsIn.there | apply RowsIn.thereS)) _ (by omega)) | exact Sees.own (WRowsIn.mem (by repeat (first | exact WRowsIn.here | exact WRowsIn.last | apply WRowsIn.there | apply WRowsIn.thereS)) _ (by omega))) rfl rfl rfl) (by nofun) (fun w1 hw => ?_)
    exact ⟨⟨⟨x12, 1 + x19, 1 + x23, 1 + x27, ar, cr, vs⟩, hx12, ⟨by show 1 ≤ 1 + x19; omega, by show 1 + x19 ≤ 4; omega⟩, ⟨by show 1 ≤ 1 + x23; omega, by show 1 + x23 ≤ 4; omega⟩, ⟨by show 1 ≤ 1 + x27; omega, by show 1 + x27 ≤ 3; omega⟩, hl8, hq9⟩, rfl, (hw.pick (by apply Pick.one; repeat (first | exact Rem.here | apply Rem.there))).out1⟩

end Go.Proofs.Ytfignpiphihgfaa


namespace Go.Proofs.Ytfignpiphihgfaa
open Go.RowKit
set_option linter.unusedVariables false
set_option linter.unusedSimpArgs false
set_option maxRecDepth 20000

end Go.Proofs.Ytfignpiphihgfaa


namespace Go.Proofs.Ytfignpiphihgfaa
open Go.RowKit
set_option linter.unusedVariables false
set_option linter.unusedSimpArgs false
set_option maxRecDepth 20000

end Go.Proofs.Ytfignpiphihgfaa


namespace Go.Proofs.Ytfignpiphihgfaa
open Go.RowKit
set_option linter.unusedVariables false
set_option linter.unusedSimpArgs false
set_option maxRecDepth 20000

theorem ext165_SameN : ExtF Try.prog 165 Extern.MathFloatBits.float64bits := ⟨_, Try.func165, by kernel_rfl, by kernel_rfl, by kernel_rfl, by kernel_rfl⟩
theorem known149_SameN : Known Try.prog 149 := Known.mk' Try.func149 (by kernel_rfl)

theorem c_Signbit {w : World} {x : Nat} (hx : fnan .f64 x = false) : Pure Try.prog 149 [.float .f64 x] w (.bool (neg64 x)) := by
  refine Pure.enter Try.func149 rfl Try.ntmps149 (Nat.le_of_ble_eq_true rfl) ?_
  refine V.seq ?_
  refine V.region ?_
  refine VL.r (.inl rfl) rfl (by decide) (yr_assign (u := .bool false) rfl rfl) ?_
  refine VL.nil ?_
  refine VE.then_wp ?_
  refine V.seq ?_
  refine V.region ?_
  refine VL.r (.inl rfl) rfl (by decide) (yr_move rfl rfl) ?_
  refine VL.q (.inl rfl) rfl (by decide) (yq_ext rfl ext165_SameN (.cons rfl .nil) (fun vs w h => ext_bits64 vs w (by assumption) h)) ?_
  refine VL.r (.inl rfl) rfl (by decide) (yr_intConv rfl Try.underlying150 Try.underlying2 rfl rfl) ?_
  refine VL.r (.inl rfl) rfl (by decide) (yr_icmp rfl (.inr (.inr (.inl rfl))) rfl rfl) ?_
  refine VL.r (.inl rfl) rfl (by decide) (yr_assign rfl rfl) ?_
  refine VL.nil ?_
  refine VE.then_wp ?_
  refine V.ret ?_
  refine ret1 rfl rfl (fun w1 hw => ?_)
  exact ⟨rfl, hw.below⟩

theorem c_SameNumber {w : World} {x y : Nat} (hx : Can .f32 x) (hy : Can .f32 y) : Pure Try.prog 114 [.float .f32 x, .float .f32 y] w (.bool (x == y)) := by
  refine Pure.enter Try.func114 rfl Try.ntmps114 (Nat.le_of_ble_eq_true rfl) ?_
  refine V.seq ?_
  refine V.region ?_
  refine VL.r (.inl rfl) rfl (by decide) (yr_assign (u := .bool false) rfl rfl) ?_
  refine VL.nil ?_
  refine VE.then_wp ?_
  refine V.seq ?_
  refine V.seq ?_
  refine V.region ?_
  refine VL.r (.inl rfl) rfl (by decide) (yr_move rfl rfl) ?_
  refine VL.r (.inl rfl) rfl (by decide) (yr_move rfl rfl) ?_
  refine VL.r (.inl rfl) rfl (by decide) (yr_fcmp rfl (.inr (.inl rfl)) rfl rfl) ?_
  refine VL.r (.inl rfl) rfl (by decide) (yr_move rfl rfl) ?_
  refine VX.split 8 _ rfl (fun h1 => ?_) (fun h1 => ?_)
  · skip
    refine VL.no rfl rfl rfl rfl rfl (by decide) ?_
    refine VL.no rfl rfl rfl rfl rfl (by decide) ?_
    refine VL.no rfl rfl rfl rfl rfl (by decide) ?_
    refine VL.r (.inl rfl) rfl (by decide) (yr_pick_t (u := .bool true) rfl rfl rfl) ?_
    refine VL.nil ?_
    refine VE.then_wp ?_
    refine V.condT rfl ?_
    refine V.seq ?_
    refine V.region ?_
    refine VL.r (.inl rfl) rfl (by decide) (yr_move rfl rfl) ?_
    refine VL.r (.inl rfl) rfl (by decide) (yr_move rfl rfl) ?_
    refine VL.r (.inl rfl) rfl (by decide) (yr_fcmp rfl (.inr (.inl rfl)) rfl rfl) ?_
    refine VL.r (.inl rfl) rfl (by decide) (yr_move rfl rfl) ?_
    refine VX.split 16 _ rfl (fun h3 => ?_) (fun h3 => ?_)
    · skip
      refine VL.r (.inr ⟨_, _, _, rfl, rfl, rfl⟩) rfl (by decide) (yr_move rfl rfl) ?_
      refine VL.r (.inr ⟨_, _, _, rfl, rfl, rfl⟩) rfl (by decide) (yr_move rfl rfl) ?_
      refine VL.r (.inr ⟨_, _, _, rfl, rfl, rfl⟩) rfl (by decide) (yr_fcmp rfl (.inr (.inl rfl)) rfl rfl) ?_
      refine VL.r (.inl rfl) rfl (by decide) (yr_pick_t rfl rfl rfl) ?_
      refine VL.r (.inl rfl) rfl (by decide) (yr_assign rfl rfl) ?_
      refine VL.nil ?_
      refine VE.then_wp ?_
      refine V.ret ?_
      refine VE.then_ret ?_
      refine ret1 rfl rfl (fun w1 hw => ?_)
      refine ⟨congrArg Value.bool ?_, hw.below⟩
      simp only [fne_self] at *
      first
        | exact same_nanx hx hy (by assumption)
        | (exfalso; simp_all; done)
        | exact (same_nany (by assumption) (by assumption)).symm
        | exact (same_number hx hy (by assumption) (by assumption) ▸ by simp only [*, Bool.true_and, Bool.false_and, bcmp])
        | (have key := same_number hx hy (by assumption) (by assumption); simp only [*, Bool.true_and, Bool.false_and] at key; first | exact key | (rw [← key]; rfl))
    · skip
      refine VL.no rfl rfl rfl rfl rfl (by decide) ?_
      refine VL.no rfl rfl rfl rfl rfl (by decide) ?_
      refine VL.no rfl rfl rfl rfl rfl (by decide) ?_
      refine VL.r (.inl rfl) rfl (by decide) (yr_pick_f (u := .bool false) rfl rfl rfl) ?_
      refine VL.r (.inl rfl) rfl (by decide) (yr_assign rfl rfl) ?_
      refine VL.nil ?_
      refine VE.then_wp ?_
      refine V.ret ?_
      refine VE.then_ret ?_
      refine ret1 rfl rfl (fun w1 hw => ?_)
      refine ⟨congrArg Value.bool ?_, hw.below⟩
      simp only [fne_self] at *
      first
        | exact same_nanx hx hy (by assumption)
        | (exfalso; simp_all; done)
        | exact (same_nany (by assumption) (by assumption)).symm
        | exact (same_number hx hy (by assumption) (by assumption) ▸ by simp only [*, Bool.true_and, Bool.false_and, bcmp])
        | (have key := same_number hx hy (by assumption) (by assumption); simp only [*, Bool.true_and, Bool.false_and] at key; first | exact key | (rw [← key]; rfl))
  · skip
    refine VL.r (.inr ⟨_, _, _, rfl, rfl, rfl⟩) rfl (by decide) (yr_move rfl rfl) ?_
    refine VL.r (.inr ⟨_, _, _, rfl, rfl, rfl⟩) rfl (by decide) (yr_move rfl rfl) ?_
    refine VL.r (.inr ⟨_, _, _, rfl, rfl, rfl⟩) rfl (by decide) (yr_fcmp rfl (.inr (.inl rfl)) rfl rfl) ?_
    refine VL.r (.inl rfl) rfl (by decide) (yr_pick_f rfl rfl rfl) ?_
    refine VL.nil ?_
    refine VE.then_wp ?_
    refine V.cond rfl (fun h4 => ?_) (fun h4 => ?_)
    · skip
      refine V.seq ?_
      refine V.region ?_
      refine VL.r (.inl rfl) rfl (by decide) (yr_move rfl rfl) ?_
      refine VL.r (.inl rfl) rfl (by decide) (yr_move rfl rfl) ?_
      refine VL.r (.inl rfl) rfl (by decide) (yr_fcmp rfl (.inr (.inl rfl)) rfl rfl) ?_
      refine VL.r (.inl rfl) rfl (by decide) (yr_move rfl rfl) ?_
      refine VX.split 16 _ rfl (fun h5 => ?_) (fun h5 => ?_)
      · skip
        refine VL.r (.inr ⟨_, _, _, rfl, rfl, rfl⟩) rfl (by decide) (yr_move rfl rfl) ?_
        refine VL.r (.inr ⟨_, _, _, rfl, rfl, rfl⟩) rfl (by decide) (yr_move rfl rfl) ?_
        refine VL.r (.inr ⟨_, _, _, rfl, rfl, rfl⟩) rfl (by decide) (yr_fcmp rfl (.inr (.inl rfl)) rfl rfl) ?_
        refine VL.r (.inl rfl) rfl (by decide) (yr_pick_t rfl rfl rfl) ?_
        refine VL.r (.inl rfl) rfl (by decide) (yr_assign rfl rfl) ?_
        refine VL.nil ?_
        refine VE.then_wp ?_
        refine V.ret ?_
        refine VE.then_ret ?_
        refine ret1 rfl rfl (fun w1 hw => ?_)
        refine ⟨congrArg Value.bool ?_, hw.below⟩
        simp only [fne_self] at *
        first
          | exact same_nanx hx hy (by assumption)
          | (exfalso; simp_all; done)
          | exact (same_nany (by assumption) (by assumption)).symm
          | exact (same_number hx hy (by assumption) (by assumption) ▸ by simp only [*, Bool.true_and, Bool.false_and, bcmp])
          | (have key := same_number hx hy (by assumption) (by assumption); simp only [*, Bool.true_and, Bool.false_and] at key; first | exact key | (rw [← key]; rfl))
      · skip
        refine VL.no rfl rfl rfl rfl rfl (by decide) ?_
        refine VL.no rfl rfl rfl rfl rfl (by decide) ?_
        refine VL.no rfl rfl rfl rfl rfl (by decide) ?_
        refine VL.r (.inl rfl) rfl (by decide) (yr_pick_f (u := .bool false) rfl rfl rfl) ?_
        refine VL.r (.inl rfl) rfl (by decide) (yr_assign rfl rfl) ?_
        refine VL.nil ?_
        refine VE.then_wp ?_
        refine V.ret ?_
        refine VE.then_ret ?_
        refine ret1 rfl rfl (fun w1 hw => ?_)
        refine ⟨congrArg Value.bool ?_, hw.below⟩
        simp only [fne_self] at *
        first
          | exact same_nanx hx hy (by assumption)
          | (exfalso; simp_all; done)
          | exact (same_nany (by assumption) (by assumption)).symm
          | exact (same_number hx hy (by assumption) (by assumption) ▸ by simp only [*, Bool.true_and, Bool.false_and, bcmp])
          | (have key := same_number hx hy (by assumption) (by assumption); simp only [*, Bool.true_and, Bool.false_and] at key; first | exact key | (rw [← key]; rfl))
    · skip
      refine V.skip ?_
      refine VE.then_wp ?_
      refine V.seq ?_
      refine V.region ?_
      refine VL.r (.inl rfl) rfl (by decide) (yr_move rfl rfl) ?_
      refine VL.r (.inl rfl) rfl (by decide) (yr_move rfl rfl) ?_
      refine VL.r (.inl rfl) rfl (by decide) (yr_fcmp rfl (.inl rfl) rfl rfl) ?_
      refine VL.r (.inl rfl) rfl (by decide) (yr_move rfl rfl) ?_
      refine VX.split 24 _ rfl (fun h6 => ?_) (fun h6 => ?_)
      · skip
        refine VL.r (.inr ⟨_, _, _, rfl, rfl, rfl⟩) rfl (by decide) (yr_move rfl rfl) ?_
        refine VL.r (.inr ⟨_, _, _, rfl, rfl, rfl⟩) rfl (by decide) (yr_fconv rfl Try.underlying23 Try.underlying59 (by decide) rfl (fover_up _)) ?_
        refine VL.q (.inr ⟨_, _, _, rfl, rfl, rfl⟩) rfl (by decide) (yq_callf rfl known149_SameN (.cons rfl .nil) (fun w hw => (c_Signbit (fnan_up' (by assumption))))) ?_
        refine VL.r (.inr ⟨_, _, _, rfl, rfl, rfl⟩) rfl (by decide) (yr_move rfl rfl) ?_
        refine VL.r (.inr ⟨_, _, _, rfl, rfl, rfl⟩) rfl (by decide) (yr_fconv rfl Try.underlying23 Try.underlying59 (by decide) rfl (fover_up _)) ?_
        refine VL.q (.inr ⟨_, _, _, rfl, rfl, rfl⟩) rfl (by decide) (yq_callf rfl known149_SameN (.cons rfl .nil) (fun w hw => (c_Signbit (fnan_up' (by assumption))))) ?_
        refine VL.r (.inr ⟨_, _, _, rfl, rfl, rfl⟩) rfl (by decide) (yr_bcmp rfl Try.underlying4 rfl rfl (.inl rfl)) ?_
        refine VL.r (.inl rfl) rfl (by decide) (yr_pick_t rfl rfl rfl) ?_
        refine VL.r (.inl rfl) rfl (by decide) (yr_assign rfl rfl) ?_
        refine VL.nil ?_
        refine VE.then_wp ?_
        refine V.ret ?_
        refine ret1 rfl rfl (fun w1 hw => ?_)
        refine ⟨congrArg Value.bool ?_, hw.below⟩
        simp only [fne_self] at *
        first
          | exact same_nanx hx hy (by assumption)
          | (exfalso; simp_all; done)
          | exact (same_nany (by assumption) (by assumption)).symm
          | exact (same_number hx hy (by assumption) (by assumption) ▸ by simp only [*, Bool.true_and, Bool.false_and, bcmp])
          | (have key := same_number hx hy (by assumption) (by assumption); simp only [*, Bool.true_and, Bool.false_and] at key; first | exact key | (rw [← key]; rfl))
      · skip
        refine VL.no rfl rfl rfl rfl rfl (by decide) ?_
        refine VL.no rfl rfl rfl rfl rfl (by decide) ?_
        refine VL.no rfl rfl rfl rfl rfl (by decide) ?_
        refine VL.no rfl rfl rfl rfl rfl (by decide) ?_
        refine VL.no rfl rfl rfl rfl rfl (by decide) ?_
        refine VL.no rfl rfl rfl rfl rfl (by decide) ?_
        refine VL.no rfl rfl rfl rfl rfl (by decide) ?_
        refine VL.r (.inl rfl) rfl (by decide) (yr_pick_f (u := .bool false) rfl rfl rfl) ?_
        refine VL.r (.inl rfl) rfl (by decide) (yr_assign rfl rfl) ?_
        refine VL.nil ?_
        refine VE.then_wp ?_
        refine V.ret ?_
        refine ret1 rfl rfl (fun w1 hw => ?_)
        refine ⟨congrArg Value.bool ?_, hw.below⟩
        simp only [fne_self] at *
        first
          | exact same_nanx hx hy (by assumption)
          | (exfalso; simp_all; done)
          | exact (same_nany (by assumption) (by assumption)).symm
          | exact (same_number hx hy (by assumption) (by assumption) ▸ by simp only [*, Bool.true_and, Bool.false_and, bcmp])
          | (have key := same_number hx hy (by assumption) (by assumption); simp only [*, Bool.true_and, Bool.false_and] at key; first | exact key | (rw [← key]; rfl))

end Go.Proofs.Ytfignpiphihgfaa


namespace Go.Proofs.Ytfignpiphihgfaa
open Go.RowKit
set_option linter.unusedVariables false
set_option linter.unusedSimpArgs false
set_option maxRecDepth 20000

attribute [local irreducible] fop fcmp fconv sqrt32 fneg

end Go.Proofs.Ytfignpiphihgfaa


namespace Go.Proofs.Ytfignpiphihgfaa
open Go.RowKit
set_option linter.unusedVariables false
set_option linter.unusedSimpArgs false
set_option maxRecDepth 20000

attribute [local irreducible] fop fcmp fconv sqrt32 fneg

end Go.Proofs.Ytfignpiphihgfaa


namespace Go.Proofs.Ytfignpiphihgfaa
open Go.RowKit
set_option linter.unusedVariables false
set_option linter.unusedSimpArgs false
set_option maxRecDepth 20000

theorem sz27_Field : (Try.prog.info? 27).map (·.size) = some 3 := by kernel_rfl
theorem zero27_Field : (Try.prog.info? 27).bind (·.zero) = some (Value.agg #[Value.float .f32 0, Value.float .f32 0, Value.float .f32 0]) := by kernel_rfl
theorem lay27_Field : Lay Try.prog 27 [Value.float .f32 0, Value.float .f32 0, Value.float .f32 0] [(0, 1), (1, 1), (2, 1)] := Lay.mk' (by kernel_rfl) (by kernel_rfl)
theorem known102_Field : Known Try.prog 102 := Known.mk' Try.func102 (by kernel_rfl)
attribute [local irreducible] fop fcmp fconv sqrt32 fneg segF

theorem c_ifV {w : World} {x1 x2 x3 : Nat} : Pure Try.prog 104 [vv (x1, x2, x3)] w (.tuple #[vv (ifV (x1, x2, x3)), .bool (fin3 (x1, x2, x3))]) := by
  refine Pure.enter Try.func104 rfl Try.ntmps104 (Nat.le_of_ble_eq_true rfl) ?_
  refine V.seq ?_
  refine V.region ?_
  refine VL.new1 (.inl rfl) rfl (by decide) (yn_box rfl rfl (.inr ⟨rfl, rfl⟩)) ?_
  intro b1
  refine VL.new1 (.inl rfl) rfl (by decide) (yn_alloc rfl zero27_Field rfl) ?_
  intro b2
  refine VL.r (.inl rfl) rfl (by decide) (yr_assign (u := .bool false) rfl rfl) ?_
  refine VL.nil ?_
  refine VE.then_wp ?_
  refine V.seq ?_
  refine V.seq ?_
  refine V.region ?_
  refine VL.q (.inl rfl) rfl (by decide) (yq_loadS rfl Try.underlying27 sz27_Field rfl (by first | exact Sees.root (by assumption) | exact Sees.own (by repeat (first | exact List.mem_cons_self | exact List.mem_append_left _ (by assumption) | apply List.mem_cons_of_mem | apply List.mem_append_right)) | exact Sees.root (hR _ (by omega)) | exact Sees.own (RowsIn.mem (by repeat (first | exact RowsIn.here | exact RowsIn.last | apply RowsIn.there | apply RowsIn.thereS)) _ (by omega)) | exact Sees.own (WRowsIn.mem (by repeat (first | exact WRowsIn.here | exact WRowsIn.last | apply WRowsIn.there | apply WRowsIn.thereS)) _ (by omega))) rfl rfl rfl) ?_
  refine VL.q (.inl rfl) rfl (by decide) (yq_callf rfl known102_Field (.cons rfl .nil) (fun w hw => c_fin3)) ?_
  refine VL.r (.inl rfl) rfl (by decide) (yr_not rfl rfl) ?_
  refine VL.nil ?_
  refine VE.then_wp ?_
  refine V.cond rfl (fun h1 => ?_) (fun h1 => ?_)
  · skip
    replace h1 := bnot_t h1
    refine V.seq ?_
    refine V.region ?_
    refine VL.r (.inl rfl) rfl (by decide) (yr_build rfl lay27_Field rfl .nil (by first | (simp; done) | (simp [vv]; done) | (simp [cn, cn1, cn0]; done)) rfl) ?_
    refine VL.s (.inl rfl) rfl (yc_store rfl sz27_Field rfl rfl (by repeat (first | exact UpdF.here | apply UpdF.there | apply UpdF.thereS)) (.inr ⟨rfl, rfl⟩) rfl (by first | exact Nat.le_of_ble_eq_true rfl | simp) (by decide) rfl) ?_
    rintro ⟨⟩
    refine VL.r (.inl rfl) rfl (by decide) (yr_assign (u := .bool false) rfl rfl) ?_
    refine VL.nil ?_
    refine VE.then_wp ?_
    refine V.ret ?_
    refine VE.then_ret ?_
    refine retN rfl (.cons (rv_cellS rfl Try.underlying27 sz27_Field (by first | exact Sees.root (by assumption) | exact Sees.own (by repeat (first | exact List.mem_cons_self | exact List.mem_append_left _ (by assumption) | apply List.mem_cons_of_mem | apply List.mem_append_right)) | exact Sees.root (hR _ (by omega)) | exact Sees.own (RowsIn.mem (by repeat (first | exact RowsIn.here | exact RowsIn.last | apply RowsIn.there | apply RowsIn.thereS)) _ (by omega)) | exact Sees.own (WRowsIn.mem (by repeat (first | exact WRowsIn.here | exact WRowsIn.last | apply WRowsIn.there | apply WRowsIn.thereS)) _ (by omega))) rfl rfl rfl) (.cons (rv_tmp rfl (by nofun)) .nil)) (by nofun) (fun w1 hw => ?_)
    first
      | exact ⟨by rw [show fin3 (x1, x2, x3) = true by assumption, ← ifV_yes (v := (x1, x2, x3)) (by assumption)] <;> rfl, hw.below⟩
      | exact ⟨by rw [show fin3 (x1, x2, x3) = false by assumption, ← ifV_no (v := (x1, x2, x3)) (by assumption)] <;> rfl, hw.below⟩
  · skip
    replace h1 := bnot_f h1
    refine V.skip ?_
    refine VE.then_wp ?_
    refine V.seq ?_
    refine V.region ?_
    refine VL.q (.inl rfl) rfl (by decide) (yq_loadS rfl Try.underlying27 sz27_Field rfl (by first | exact Sees.root (by assumption) | exact Sees.own (by repeat (first | exact List.mem_cons_self | exact List.mem_append_left _ (by assumption) | apply List.mem_cons_of_mem | apply List.mem_append_right)) | exact Sees.root (hR _ (by omega)) | exact Sees.own (RowsIn.mem (by repeat (first | exact RowsIn.here | exact RowsIn.last | apply RowsIn.there | apply RowsIn.thereS)) _ (by omega)) | exact Sees.own (WRowsIn.mem (by repeat (first | exact WRowsIn.here | exact WRowsIn.last | apply WRowsIn.there | apply WRowsIn.thereS)) _ (by omega))) rfl rfl rfl) ?_
    refine VL.s (.inl rfl) rfl (yc_store rfl sz27_Field rfl rfl (by repeat (first | exact UpdF.here | apply UpdF.there | apply UpdF.thereS)) (.inr ⟨rfl, rfl⟩) rfl (by first | exact Nat.le_of_ble_eq_true rfl | simp) (by decide) rfl) ?_
    rintro ⟨⟩
    refine VL.r (.inl rfl) rfl (by decide) (yr_assign (u := .bool true) rfl rfl) ?_
    refine VL.nil ?_
    refine VE.then_wp ?_
    refine V.ret ?_
    refine retN rfl (.cons (rv_cellS rfl Try.underlying27 sz27_Field (by first | exact Sees.root (by assumption) | exact Sees.own (by repeat (first | exact List.mem_cons_self | exact List.mem_append_left _ (by assumption) | apply List.mem_cons_of_mem | apply List.mem_append_right)) | exact Sees.root (hR _ (by omega)) | exact Sees.own (RowsIn.mem (by repeat (first | exact RowsIn.here | exact RowsIn.last | apply RowsIn.there | apply RowsIn.thereS)) _ (by omega)) | exact Sees.own (WRowsIn.mem (by repeat (first | exact WRowsIn.here | exact WRowsIn.last | apply WRowsIn.there | apply WRowsIn.thereS)) _ (by omega))) rfl rfl rfl) (.cons (rv_tmp rfl (by nofun)) .nil)) (by nofun) (fun w1 hw => ?_)
    first
      | exact ⟨by rw [show fin3 (x1, x2, x3) = true by assumption, ← ifV_yes (v := (x1, x2, x3)) (by assumption)] <;> rfl, hw.below⟩
      | exact ⟨by rw [show fin3 (x1, x2, x3) = false by assumption, ← ifV_no (v := (x1, x2, x3)) (by assumption)] <;> rfl, hw.below⟩

end Go.Proofs.Ytfignpiphihgfaa


namespace Go.Proofs.Ytfignpiphihgfaa
open Go.RowKit
set_option linter.unusedVariables false
set_option linter.unusedSimpArgs false
set_option maxRecDepth 20000

theorem known90_MeshB : Known Try.prog 90 := Known.mk' Try.func90 (by kernel_rfl)
theorem sz27_MeshB : (Try.prog.info? 27).map (·.size) = some 3 := by kernel_rfl
theorem known102_MeshB : Known Try.prog 102 := Known.mk' Try.func102 (by kernel_rfl)
theorem sz23_MeshB : (Try.prog.info? 23).map (·.size) = some 1 := by kernel_rfl
theorem fb23_MeshB : flatB Try.prog 23 = true := by kernel_rfl
theorem known112_MeshB : Known Try.prog 112 := Known.mk' Try.func112 (by kernel_rfl)
theorem sz2_MeshB : (Try.prog.info? 2).map (·.size) = some 1 := by kernel_rfl
theorem fb2_MeshB : flatB Try.prog 2 = true := by kernel_rfl
theorem known64_MeshB : Known Try.prog 64 := Known.mk' Try.func64 (by kernel_rfl)
theorem sz28_MeshB : (Try.prog.info? 28).map (·.size) = some 1 := by kernel_rfl
theorem fb28_MeshB : flatB Try.prog 28 = true := by kernel_rfl
theorem zero27_MeshB : (Try.prog.info? 27).bind (·.zero) = some (Value.agg #[Value.float .f32 0, Value.float .f32 0, Value.float .f32 0]) := by kernel_rfl
theorem lay27_MeshB : Lay Try.prog 27 [Value.float .f32 0, Value.float .f32 0, Value.float .f32 0] [(0, 1), (1, 1), (2, 1)] := Lay.mk' (by kernel_rfl) (by kernel_rfl)
theorem known52_MeshB : Known Try.prog 52 := Known.mk' Try.func52 (by kernel_rfl)
attribute [local irreducible] fop fcmp fconv sqrt32 fneg segF fieldS fieldI List.getD

theorem c_isMS {w : World} {n : Int} : Pure Try.prog 64 [.int .i64 n] w (.bool (decide (1 ≤ n ∧ n ≤ 216))) := by
  refine Pure.enter Try.func64 rfl Try.ntmps64 (Nat.le_of_ble_eq_true rfl) ?_
  refine V.seq ?_
  refine V.region ?_
  refine VL.r (.inl rfl) rfl (by decide) (yr_assign (u := .bool false) rfl rfl) ?_
  refine VL.nil ?_
  refine VE.then_wp ?_
  refine V.seq ?_
  refine V.region ?_
  refine VL.r (.inl rfl) rfl (by decide) (yr_move rfl rfl) ?_
  refine VL.q (.inl rfl) rfl (by decide) (yq_callf rfl known90_MeshB (.cons rfl (.cons rfl (.cons rfl .nil))) (fun w hw => c_within)) ?_
  refine VL.r (.inl rfl) rfl (by decide) (yr_assign rfl rfl) ?_
  refine VL.nil ?_
  refine VE.then_wp ?_
  refine V.ret ?_
  refine ret1 rfl rfl (fun w1 hw => ?_)
  exact ⟨rfl, hw.below⟩

theorem c_implMesh {w : World} {f1 f2 f3 st : Nat} {wi hi de : Int} {a : Option Addr} {m c : Nat} : Pure Try.prog 50 [.agg #[.float .f32 f1, .float .f32 f2, .float .f32 f3, .float .f32 st, .int .i64 wi, .int .i64 hi, .int .i64 de, .slice a m c]] w (.bool (meshOk (f1, f2, f3) st wi hi de m)) := by
  refine Pure.enter Try.func50 rfl Try.ntmps50 (Nat.le_of_ble_eq_true rfl) ?_
  refine V.seq ?_
  refine V.region ?_
  refine VL.new1 (.inl rfl) rfl (by decide) (yn_box rfl rfl (.inr ⟨rfl, rfl⟩)) ?_
  intro b1
  refine VL.r (.inl rfl) rfl (by decide) (yr_assign (u := .bool false) rfl rfl) ?_
  refine VL.nil ?_
  refine VE.then_wp ?_
  refine V.seq ?_
  refine V.region ?_
  refine VL.r (.inl rfl) rfl (by decide) (yr_fieldAddr rfl Try.underlying30 rfl rfl sz27_MeshB (by decide) rfl) ?_
  refine VL.q (.inl rfl) rfl (by decide) (yq_loadS rfl Try.underlying27 sz27_MeshB rfl (by first | exact Sees.root (by assumption) | exact Sees.own (by repeat (first | exact List.mem_cons_self | exact List.mem_append_left _ (by assumption) | apply List.mem_cons_of_mem | apply List.mem_append_right)) | exact Sees.root (hR _ (by omega)) | exact Sees.own (RowsIn.mem (by repeat (first | exact RowsIn.here | exact RowsIn.last | apply RowsIn.there | apply RowsIn.thereS)) _ (by omega)) | exact Sees.own (WRowsIn.mem (by repeat (first | exact WRowsIn.here | exact WRowsIn.last | apply WRowsIn.there | apply WRowsIn.thereS)) _ (by omega))) rfl rfl rfl) ?_
  refine VL.q (.inl rfl) rfl (by decide) (yq_callf rfl known102_MeshB (.cons rfl .nil) (fun w hw => c_fin3)) ?_
  refine VL.r (.inl rfl) rfl (by decide) (yr_move rfl rfl) ?_
  refine VX.split 6 _ rfl (fun h1 => ?_) (fun h1 => ?_)
  · skip
    refine VL.r (.inr ⟨_, _, _, rfl, rfl, rfl⟩) rfl (by decide) (yr_fieldAddr rfl Try.underlying30 rfl rfl sz23_MeshB (by decide) rfl) ?_
    refine VL.q (.inr ⟨_, _, _, rfl, rfl, rfl⟩) rfl (by decide) (yq_load rfl fb23_MeshB rfl (by first | exact Sees.root (by assumption) | exact Sees.own (by repeat (first | exact List.mem_cons_self | exact List.mem_append_left _ (by assumption) | apply List.mem_cons_of_mem | apply List.mem_append_right)) | exact Sees.root (hR _ (by omega)) | exact Sees.own (RowsIn.mem (by repeat (first | exact RowsIn.here | exact RowsIn.last | apply RowsIn.there | apply RowsIn.thereS)) _ (by omega)) | exact Sees.own (WRowsIn.mem (by repeat (first | exact WRowsIn.here | exact WRowsIn.last | apply WRowsIn.there | apply WRowsIn.thereS)) _ (by omega))) rfl) ?_
    refine VL.q (.inr ⟨_, _, _, rfl, rfl, rfl⟩) rfl (by decide) (yq_callf rfl known112_MeshB (.cons rfl .nil) (fun w hw => c_isLength _)) ?_
    refine VL.r (.inl rfl) rfl (by decide) (yr_pick_t rfl rfl rfl) ?_
    refine VL.r (.inl rfl) rfl (by decide) (yr_move rfl rfl) ?_
    refine VX.split 11 _ rfl (fun h2 => ?_) (fun h2 => ?_)
    · skip
      refine VL.r (.inr ⟨_, _, _, rfl, rfl, rfl⟩) rfl (by decide) (yr_fieldAddr rfl Try.underlying30 rfl rfl sz2_MeshB (by decide) rfl) ?_
      refine VL.q (.inr ⟨_, _, _, rfl, rfl, rfl⟩) rfl (by decide) (yq_load rfl fb2_MeshB rfl (by first | exact Sees.root (by assumption) | exact Sees.own (by repeat (first | exact List.mem_cons_self | exact List.mem_append_left _ (by assumption) | apply List.mem_cons_of_mem | apply List.mem_append_right)) | exact Sees.root (hR _ (by omega)) | exact Sees.own (RowsIn.mem (by repeat (first | exact RowsIn.here | exact RowsIn.last | apply RowsIn.there | apply RowsIn.thereS)) _ (by omega)) | exact Sees.own (WRowsIn.mem (by repeat (first | exact WRowsIn.here | exact WRowsIn.last | apply WRowsIn.there | apply WRowsIn.thereS)) _ (by omega))) rfl) ?_
      refine VL.q (.inr ⟨_, _, _, rfl, rfl, rfl⟩) rfl (by decide) (yq_callf rfl known64_MeshB (.cons rfl .nil) (fun w hw => c_isMS)) ?_
      refine VL.r (.inl rfl) rfl (by decide) (yr_pick_t rfl rfl rfl) ?_
      refine VL.r (.inl rfl) rfl (by decide) (yr_move rfl rfl) ?_
      refine VX.split 16 _ rfl (fun h3 => ?_) (fun h3 => ?_)
      · skip
        refine VL.r (.inr ⟨_, _, _, rfl, rfl, rfl⟩) rfl (by decide) (yr_fieldAddr rfl Try.underlying30 rfl rfl sz2_MeshB (by decide) rfl) ?_
        refine VL.q (.inr ⟨_, _, _, rfl, rfl, rfl⟩) rfl (by decide) (yq_load rfl fb2_MeshB rfl (by first | exact Sees.root (by assumption) | exact Sees.own (by repeat (first | exact List.mem_cons_self | exact List.mem_append_left _ (by assumption) | apply List.mem_cons_of_mem | apply List.mem_append_right)) | exact Sees.root (hR _ (by omega)) | exact Sees.own (RowsIn.mem (by repeat (first | exact RowsIn.here | exact RowsIn.last | apply RowsIn.there | apply RowsIn.thereS)) _ (by omega)) | exact Sees.own (WRowsIn.mem (by repeat (first | exact WRowsIn.here | exact WRowsIn.last | apply WRowsIn.there | apply WRowsIn.thereS)) _ (by omega))) rfl) ?_
        refine VL.q (.inr ⟨_, _, _, rfl, rfl, rfl⟩) rfl (by decide) (yq_callf rfl known64_MeshB (.cons rfl .nil) (fun w hw => c_isMS)) ?_
        refine VL.r (.inl rfl) rfl (by decide) (yr_pick_t rfl rfl rfl) ?_
        refine VL.r (.inl rfl) rfl (by decide) (yr_move rfl rfl) ?_
        refine VX.split 21 _ rfl (fun h4 => ?_) (fun h4 => ?_)
        · skip
          refine VL.r (.inr ⟨_, _, _, rfl, rfl, rfl⟩) rfl (by decide) (yr_fieldAddr rfl Try.underlying30 rfl rfl sz2_MeshB (by decide) rfl) ?_
          refine VL.q (.inr ⟨_, _, _, rfl, rfl, rfl⟩) rfl (by decide) (yq_load rfl fb2_MeshB rfl (by first | exact Sees.root (by assumption) | exact Sees.own (by repeat (first | exact List.mem_cons_self | exact List.mem_append_left _ (by assumption) | apply List.mem_cons_of_mem | apply List.mem_append_right)) | exact Sees.root (hR _ (by omega)) | exact Sees.own (RowsIn.mem (by repeat (first | exact RowsIn.here | exact RowsIn.last | apply RowsIn.there | apply RowsIn.thereS)) _ (by omega)) | exact Sees.own (WRowsIn.mem (by repeat (first | exact WRowsIn.here | exact WRowsIn.last | apply WRowsIn.there | apply WRowsIn.thereS)) _ (by omega))) rfl) ?_
          refine VL.q (.inr ⟨_, _, _, rfl, rfl, rfl⟩) rfl (by decide) (yq_callf rfl known64_MeshB (.cons rfl .nil) (fun w hw => c_isMS)) ?_
          refine VL.r (.inl rfl) rfl (by decide) (yr_pick_t rfl rfl rfl) ?_
          refine VL.r (.inl rfl) rfl (by decide) (yr_move rfl rfl) ?_
          refine VX.split 26 _ rfl (fun h5 => ?_) (fun h5 => ?_)
          · skip
            have hb := mesh_mul (wi := wi) (hi := hi) (de := de) (by assumption) (by assumption) (by assumption)
            refine VL.r (.inr ⟨_, _, _, rfl, rfl, rfl⟩) rfl (by decide) (yr_fieldAddr rfl Try.underlying30 rfl rfl sz2_MeshB (by decide) rfl) ?_
            refine VL.q (.inr ⟨_, _, _, rfl, rfl, rfl⟩) rfl (by decide) (yq_load rfl fb2_MeshB rfl (by first | exact Sees.root (by assumption) | exact Sees.own (by repeat (first | exact List.mem_cons_self | exact List.mem_append_left _ (by assumption) | apply List.mem_cons_of_mem | apply List.mem_append_right)) | exact Sees.root (hR _ (by omega)) | exact Sees.own (RowsIn.mem (by repeat (first | exact RowsIn.here | exact RowsIn.last | apply RowsIn.there | apply RowsIn.thereS)) _ (by omega)) | exact Sees.own (WRowsIn.mem (by repeat (first | exact WRowsIn.here | exact WRowsIn.last | apply WRowsIn.there | apply WRowsIn.thereS)) _ (by omega))) rfl) ?_
            refine VL.r (.inr ⟨_, _, _, rfl, rfl, rfl⟩) rfl (by decide) (yr_fieldAddr rfl Try.underlying30 rfl rfl sz2_MeshB (by decide) rfl) ?_
            refine VL.q (.inr ⟨_, _, _, rfl, rfl, rfl⟩) rfl (by decide) (yq_load rfl fb2_MeshB rfl (by first | exact Sees.root (by assumption) | exact Sees.own (by repeat (first | exact List.mem_cons_self | exact List.mem_append_left _ (by assumption) | apply List.mem_cons_of_mem | apply List.mem_append_right)) | exact Sees.root (hR _ (by omega)) | exact Sees.own (RowsIn.mem (by repeat (first | exact RowsIn.here | exact RowsIn.last | apply RowsIn.there | apply RowsIn.thereS)) _ (by omega)) | exact Sees.own (WRowsIn.mem (by repeat (first | exact WRowsIn.here | exact WRowsIn.last | apply WRowsIn.there | apply WRowsIn.thereS)) _ (by omega))) rfl) ?_
            refine VL.r (.inr ⟨_, _, _, rfl, rfl, rfl⟩) rfl (by decide) (yr_int rfl rfl rfl (.inr (.inr ⟨rfl, wrap_in (by omega)⟩))) ?_
            refine VL.r (.inr ⟨_, _, _, rfl, rfl, rfl⟩) rfl (by decide) (yr_fieldAddr rfl Try.underlying30 rfl rfl sz2_MeshB (by decide) rfl) ?_
            refine VL.q (.inr ⟨_, _, _, rfl, rfl, rfl⟩) rfl (by decide) (yq_load rfl fb2_MeshB rfl (by first | exact Sees.root (by assumption) | exact Sees.own (by repeat (first | exact List.mem_cons_self | exact List.mem_append_left _ (by assumption) | apply List.mem_cons_of_mem | apply List.mem_append_right)) | exact Sees.root (hR _ (by omega)) | exact Sees.own (RowsIn.mem (by repeat (first | exact RowsIn.here | exact RowsIn.last | apply RowsIn.there | apply RowsIn.thereS)) _ (by omega)) | exact Sees.own (WRowsIn.mem (by repeat (first | exact WRowsIn.here | exact WRowsIn.last | apply WRowsIn.there | apply WRowsIn.thereS)) _ (by omega))) rfl) ?_
            refine VL.r (.inr ⟨_, _, _, rfl, rfl, rfl⟩) rfl (by decide) (yr_int rfl rfl rfl (.inr (.inr ⟨rfl, wrap_in (by omega)⟩))) ?_
            refine VL.r (.inr ⟨_, _, _, rfl, rfl, rfl⟩) rfl (by decide) (yr_icmp rfl (.inr (.inr (.inr (.inl rfl)))) rfl rfl) ?_
            refine VL.r (.inl rfl) rfl (by decide) (yr_pick_t rfl rfl rfl) ?_
            refine VL.r (.inl rfl) rfl (by decide) (yr_move rfl rfl) ?_
            refine VX.split 37 _ rfl (fun h6 => ?_) (fun h6 => ?_)
            · skip
              replace h6 := ic_leq h6
              refine VL.r (.inr ⟨_, _, _, rfl, rfl, rfl⟩) rfl (by decide) (yr_fieldAddr rfl Try.underlying30 rfl rfl sz28_MeshB (by decide) rfl) ?_
              refine VL.q (.inr ⟨_, _, _, rfl, rfl, rfl⟩) rfl (by decide) (yq_load rfl fb28_MeshB rfl (by first | exact Sees.root (by assumption) | exact Sees.own (by repeat (first | exact List.mem_cons_self | exact List.mem_append_left _ (by assumption) | apply List.mem_cons_of_mem | apply List.mem_append_right)) | exact Sees.root (hR _ (by omega)) | exact Sees.own (RowsIn.mem (by repeat (first | exact RowsIn.here | exact RowsIn.last | apply RowsIn.there | apply RowsIn.thereS)) _ (by omega)) | exact Sees.own (WRowsIn.mem (by repeat (first | exact WRowsIn.here | exact WRowsIn.last | apply WRowsIn.there | apply WRowsIn.thereS)) _ (by omega))) rfl) ?_
              refine VL.r (.inr ⟨_, _, _, rfl, rfl, rfl⟩) rfl (by decide) (yr_len rfl Try.underlying28 rfl) ?_
              refine VL.r (.inr ⟨_, _, _, rfl, rfl, rfl⟩) rfl (by decide) (yr_fieldAddr rfl Try.underlying30 rfl rfl sz2_MeshB (by decide) rfl) ?_
              refine VL.q (.inr ⟨_, _, _, rfl, rfl, rfl⟩) rfl (by decide) (yq_load rfl fb2_MeshB rfl (by first | exact Sees.root (by assumption) | exact Sees.own (by repeat (first | exact List.mem_cons_self | exact List.mem_append_left _ (by assumption) | apply List.mem_cons_of_mem | apply List.mem_append_right)) | exact Sees.root (hR _ (by omega)) | exact Sees.own (RowsIn.mem (by repeat (first | exact RowsIn.here | exact RowsIn.last | apply RowsIn.there | apply RowsIn.thereS)) _ (by omega)) | exact Sees.own (WRowsIn.mem (by repeat (first | exact WRowsIn.here | exact WRowsIn.last | apply WRowsIn.there | apply WRowsIn.thereS)) _ (by omega))) rfl) ?_
              refine VL.r (.inr ⟨_, _, _, rfl, rfl, rfl⟩) rfl (by decide) (yr_fieldAddr rfl Try.underlying30 rfl rfl sz2_MeshB (by decide) rfl) ?_
              refine VL.q (.inr ⟨_, _, _, rfl, rfl, rfl⟩) rfl (by decide) (yq_load rfl fb2_MeshB rfl (by first | exact Sees.root (by assumption) | exact Sees.own (by repeat (first | exact List.mem_cons_self | exact List.mem_append_left _ (by assumption) | apply List.mem_cons_of_mem | apply List.mem_append_right)) | exact Sees.root (hR _ (by omega)) | exact Sees.own (RowsIn.mem (by repeat (first | exact RowsIn.here | exact RowsIn.last | apply RowsIn.there | apply RowsIn.thereS)) _ (by omega)) | exact Sees.own (WRowsIn.mem (by repeat (first | exact WRowsIn.here | exact WRowsIn.last | apply WRowsIn.there | apply WRowsIn.thereS)) _ (by omega))) rfl) ?_
              refine VL.r (.inr ⟨_, _, _, rfl, rfl, rfl⟩) rfl (by decide) (yr_int rfl rfl rfl (.inr (.inr ⟨rfl, wrap_in (by omega)⟩))) ?_
              refine VL.r (.inr ⟨_, _, _, rfl, rfl, rfl⟩) rfl (by decide) (yr_fieldAddr rfl Try.underlying30 rfl rfl sz2_MeshB (by decide) rfl) ?_
              refine VL.q (.inr ⟨_, _, _, rfl, rfl, rfl⟩) rfl (by decide) (yq_load rfl fb2_MeshB rfl (by first | exact Sees.root (by assumption) | exact Sees.own (by repeat (first | exact List.mem_cons_self | exact List.mem_append_left _ (by assumption) | apply List.mem_cons_of_mem | apply List.mem_append_right)) | exact Sees.root (hR _ (by omega)) | exact Sees.own (RowsIn.mem (by repeat (first | exact RowsIn.here | exact RowsIn.last | apply RowsIn.there | apply RowsIn.thereS)) _ (by omega)) | exact Sees.own (WRowsIn.mem (by repeat (first | exact WRowsIn.here | exact WRowsIn.last | apply WRowsIn.there | apply WRowsIn.thereS)) _ (by omega))) rfl) ?_
              refine VL.r (.inr ⟨_, _, _, rfl, rfl, rfl⟩) rfl (by decide) (yr_int rfl rfl rfl (.inr (.inr ⟨rfl, wrap_in (by omega)⟩))) ?_
              refine VL.r (.inr ⟨_, _, _, rfl, rfl, rfl⟩) rfl (by decide) (yr_icmp rfl (.inl rfl) rfl rfl) ?_
              refine VL.r (.inl rfl) rfl (by decide) (yr_pick_t rfl rfl rfl) ?_
              refine VL.r (.inl rfl) rfl (by decide) (yr_assign rfl rfl) ?_
              refine VL.nil ?_
              refine VE.then_wp ?_
              refine V.ret ?_
              refine ret1 rfl rfl (fun w1 hw => ?_)
              first
                | exact ⟨congrArg Value.bool (meshOk_no1 (f := (f1, f2, f3)) (by assumption)), hw.below⟩
                | exact ⟨congrArg Value.bool (meshOk_no2 (by assumption)), hw.below⟩
                | exact ⟨congrArg Value.bool (meshOk_no3 (by assumption)), hw.below⟩
                | exact ⟨congrArg Value.bool (meshOk_no3 (szOk_no1 (by assumption)).symm), hw.below⟩
                | exact ⟨congrArg Value.bool (meshOk_no3 (szOk_no2 (by assumption)).symm), hw.below⟩
                | exact ⟨congrArg Value.bool (meshOk_no3 (szOk_no3 (by assumption)).symm), hw.below⟩
                | exact ⟨congrArg Value.bool (meshOk_no3 (szOk_no4 (by omega))), hw.below⟩
                | exact ⟨congrArg Value.bool (meshOk_last (f := (f1, f2, f3)) (by assumption) (by assumption) (by assumption)), hw.below⟩
                | exact ⟨congrArg Value.bool (meshOk_last (f := (f1, f2, f3)) (by assumption) (by assumption) (szOk_yes (by assumption) (by assumption) (by assumption) (by omega))), hw.below⟩
            · skip
              replace h6 := ic_leq' h6
              refine VL.no rfl rfl rfl rfl rfl (by decide) ?_
              refine VL.no rfl rfl rfl rfl rfl (by decide) ?_
              refine VL.no rfl rfl rfl rfl rfl (by decide) ?_
              refine VL.no rfl rfl rfl rfl rfl (by decide) ?_
              refine VL.no rfl rfl rfl rfl rfl (by decide) ?_
              refine VL.no rfl rfl rfl rfl rfl (by decide) ?_
              refine VL.no rfl rfl rfl rfl rfl (by decide) ?_
              refine VL.no rfl rfl rfl rfl rfl (by decide) ?_
              refine VL.no rfl rfl rfl rfl rfl (by decide) ?_
              refine VL.no rfl rfl rfl rfl rfl (by decide) ?_
              refine VL.no rfl rfl rfl rfl rfl (by decide) ?_
              refine VL.no rfl rfl rfl rfl rfl (by decide) ?_
              refine VL.r (.inl rfl) rfl (by decide) (yr_pick_f (u := .bool false) rfl rfl rfl) ?_
              refine VL.r (.inl rfl) rfl (by decide) (yr_assign rfl rfl) ?_
              refine VL.nil ?_
              refine VE.then_wp ?_
              refine V.ret ?_
              refine ret1 rfl rfl (fun w1 hw => ?_)
              first
                | exact ⟨congrArg Value.bool (meshOk_no1 (f := (f1, f2, f3)) (by assumption)), hw.below⟩
                | exact ⟨congrArg Value.bool (meshOk_no2 (by assumption)), hw.below⟩
                | exact ⟨congrArg Value.bool (meshOk_no3 (by assumption)), hw.below⟩
                | exact ⟨congrArg Value.bool (meshOk_no3 (szOk_no1 (by assumption)).symm), hw.below⟩
                | exact ⟨congrArg Value.bool (meshOk_no3 (szOk_no2 (by assumption)).symm), hw.below⟩
                | exact ⟨congrArg Value.bool (meshOk_no3 (szOk_no3 (by assumption)).symm), hw.below⟩
                | exact ⟨congrArg Value.bool (meshOk_no3 (szOk_no4 (by omega))), hw.below⟩
                | exact ⟨congrArg Value.bool (meshOk_last (f := (f1, f2, f3)) (by assumption) (by assumption) (by assumption)), hw.below⟩
                | exact ⟨congrArg Value.bool (meshOk_last (f := (f1, f2, f3)) (by assumption) (by assumption) (szOk_yes (by assumption) (by assumption) (by assumption) (by omega))), hw.below⟩
          · skip
            refine VL.no rfl rfl rfl rfl rfl (by decide) ?_
            refine VL.no rfl rfl rfl rfl rfl (by decide) ?_
            refine VL.no rfl rfl rfl rfl rfl (by decide) ?_
            refine VL.no rfl rfl rfl rfl rfl (by decide) ?_
            refine VL.no rfl rfl rfl rfl rfl (by decide) ?_
            refine VL.no rfl rfl rfl rfl rfl (by decide) ?_
            refine VL.no rfl rfl rfl rfl rfl (by decide) ?_
            refine VL.no rfl rfl rfl rfl rfl (by decide) ?_
            refine VL.no rfl rfl rfl rfl rfl (by decide) ?_
            refine VL.r (.inl rfl) rfl (by decide) (yr_pick_f (u := .bool false) rfl rfl rfl) ?_
            refine VL.r (.inl rfl) rfl (by decide) (yr_move rfl rfl) ?_
            refine VL.no rfl rfl rfl rfl rfl (by decide) ?_
            refine VL.no rfl rfl rfl rfl rfl (by decide) ?_
            refine VL.no rfl rfl rfl rfl rfl (by decide) ?_
            refine VL.no rfl rfl rfl rfl rfl (by decide) ?_
            refine VL.no rfl rfl rfl rfl rfl (by decide) ?_
            refine VL.no rfl rfl rfl rfl rfl (by decide) ?_
            refine VL.no rfl rfl rfl rfl rfl (by decide) ?_
            refine VL.no rfl rfl rfl rfl rfl (by decide) ?_
            refine VL.no rfl rfl rfl rfl rfl (by decide) ?_
            refine VL.no rfl rfl rfl rfl rfl (by decide) ?_
            refine VL.no rfl rfl rfl rfl rfl (by decide) ?_
            refine VL.no rfl rfl rfl rfl rfl (by decide) ?_
            refine VL.r (.inl rfl) rfl (by decide) (yr_pick_f (u := .bool false) rfl rfl rfl) ?_
            refine VL.r (.inl rfl) rfl (by decide) (yr_assign rfl rfl) ?_
            refine VL.nil ?_
            refine VE.then_wp ?_
            refine V.ret ?_
            refine ret1 rfl rfl (fun w1 hw => ?_)
            first
              | exact ⟨congrArg Value.bool (meshOk_no1 (f := (f1, f2, f3)) (by assumption)), hw.below⟩
              | exact ⟨congrArg Value.bool (meshOk_no2 (by assumption)), hw.below⟩
              | exact ⟨congrArg Value.bool (meshOk_no3 (by assumption)), hw.below⟩
              | exact ⟨congrArg Value.bool (meshOk_no3 (szOk_no1 (by assumption)).symm), hw.below⟩
              | exact ⟨congrArg Value.bool (meshOk_no3 (szOk_no2 (by assumption)).symm), hw.below⟩
              | exact ⟨congrArg Value.bool (meshOk_no3 (szOk_no3 (by assumption)).symm), hw.below⟩
              | exact ⟨congrArg Value.bool (meshOk_no3 (szOk_no4 (by omega))), hw.below⟩
              | exact ⟨congrArg Value.bool (meshOk_last (f := (f1, f2, f3)) (by assumption) (by assumption) (by assumption)), hw.below⟩
              | exact ⟨congrArg Value.bool (meshOk_last (f := (f1, f2, f3)) (by assumption) (by assumption) (szOk_yes (by assumption) (by assumption) (by assumption) (by omega))), hw.below⟩
        · skip
          refine VL.no rfl rfl rfl rfl rfl (by decide) ?_
          refine VL.no rfl rfl rfl rfl rfl (by decide) ?_
          refine VL.no rfl rfl rfl rfl rfl (by decide) ?_
          refine VL.r (.inl rfl) rfl (by decide) (yr_pick_f (u := .bool false) rfl rfl rfl) ?_
          refine VL.r (.inl rfl) rfl (by decide) (yr_move rfl rfl) ?_
          refine VL.no rfl rfl rfl rfl rfl (by decide) ?_
          refine VL.no rfl rfl rfl rfl rfl (by decide) ?_
          refine VL.no rfl rfl rfl rfl rfl (by decide) ?_
          refine VL.no rfl rfl rfl rfl rfl (by decide) ?_
          refine VL.no rfl rfl rfl rfl rfl (by decide) ?_
          refine VL.no rfl rfl rfl rfl rfl (by decide) ?_
          refine VL.no rfl rfl rfl rfl rfl (by decide) ?_
          refine VL.no rfl rfl rfl rfl rfl (by decide) ?_
          refine VL.no rfl rfl rfl rfl rfl (by decide) ?_
          refine VL.r (.inl rfl) rfl (by decide) (yr_pick_f (u := .bool false) rfl rfl rfl) ?_
          refine VL.r (.inl rfl) rfl (by decide) (yr_move rfl rfl) ?_
          refine VL.no rfl rfl rfl rfl rfl (by decide) ?_
          refine VL.no rfl rfl rfl rfl rfl (by decide) ?_
          refine VL.no rfl rfl rfl rfl rfl (by decide) ?_
          refine VL.no rfl rfl rfl rfl rfl (by decide) ?_
          refine VL.no rfl rfl rfl rfl rfl (by decide) ?_
          refine VL.no rfl rfl rfl rfl rfl (by decide) ?_
          refine VL.no rfl rfl rfl rfl rfl (by decide) ?_
          refine VL.no rfl rfl rfl rfl rfl (by decide) ?_
          refine VL.no rfl rfl rfl rfl rfl (by decide) ?_
          refine VL.no rfl rfl rfl rfl rfl (by decide) ?_
          refine VL.no rfl rfl rfl rfl rfl (by decide) ?_
          refine VL.no rfl rfl rfl rfl rfl (by decide) ?_
          refine VL.r (.inl rfl) rfl (by decide) (yr_pick_f (u := .bool false) rfl rfl rfl) ?_
          refine VL.r (.inl rfl) rfl (by decide) (yr_assign rfl rfl) ?_
          refine VL.nil ?_
          refine VE.then_wp ?_
          refine V.ret ?_
          refine ret1 rfl rfl (fun w1 hw => ?_)
          first
            | exact ⟨congrArg Value.bool (meshOk_no1 (f := (f1, f2, f3)) (by assumption)), hw.below⟩
            | exact ⟨congrArg Value.bool (meshOk_no2 (by assumption)), hw.below⟩
            | exact ⟨congrArg Value.bool (meshOk_no3 (by assumption)), hw.below⟩
            | exact ⟨congrArg Value.bool (meshOk_no3 (szOk_no1 (by assumption)).symm), hw.below⟩
            | exact ⟨congrArg Value.bool (meshOk_no3 (szOk_no2 (by assumption)).symm), hw.below⟩
            | exact ⟨congrArg Value.bool (meshOk_no3 (szOk_no3 (by assumption)).symm), hw.below⟩
            | exact ⟨congrArg Value.bool (meshOk_no3 (szOk_no4 (by omega))), hw.below⟩
            | exact ⟨congrArg Value.bool (meshOk_last (f := (f1, f2, f3)) (by assumption) (by assumption) (by assumption)), hw.below⟩
            | exact ⟨congrArg Value.bool (meshOk_last (f := (f1, f2, f3)) (by assumption) (by assumption) (szOk_yes (by assumption) (by assumption) (by assumption) (by omega))), hw.below⟩
      · skip
        refine VL.no rfl rfl rfl rfl rfl (by decide) ?_
        refine VL.no rfl rfl rfl rfl rfl (by decide) ?_
        refine VL.no rfl rfl rfl rfl rfl (by decide) ?_
        refine VL.r (.inl rfl) rfl (by decide) (yr_pick_f (u := .bool false) rfl rfl rfl) ?_
        refine VL.r (.inl rfl) rfl (by decide) (yr_move rfl rfl) ?_
        refine VL.no rfl rfl rfl rfl rfl (by decide) ?_
        refine VL.no rfl rfl rfl rfl rfl (by decide) ?_
        refine VL.no rfl rfl rfl rfl rfl (by decide) ?_
        refine VL.r (.inl rfl) rfl (by decide) (yr_pick_f (u := .bool false) rfl rfl rfl) ?_
        refine VL.r (.inl rfl) rfl (by decide) (yr_move rfl rfl) ?_
        refine VL.no rfl rfl rfl rfl rfl (by decide) ?_
        refine VL.no rfl rfl rfl rfl rfl (by decide) ?_
        refine VL.no rfl rfl rfl rfl rfl (by decide) ?_
        refine VL.no rfl rfl rfl rfl rfl (by decide) ?_
        refine VL.no rfl rfl rfl rfl rfl (by decide) ?_
        refine VL.no rfl rfl rfl rfl rfl (by decide) ?_
        refine VL.no rfl rfl rfl rfl rfl (by decide) ?_
        refine VL.no rfl rfl rfl rfl rfl (by decide) ?_
        refine VL.no rfl rfl rfl rfl rfl (by decide) ?_
        refine VL.r (.inl rfl) rfl (by decide) (yr_pick_f (u := .bool false) rfl rfl rfl) ?_
        refine VL.r (.inl rfl) rfl (by decide) (yr_move rfl rfl) ?_
        refine VL.no rfl rfl rfl rfl rfl (by decide) ?_
        refine VL.no rfl rfl rfl rfl rfl (by decide) ?_
        refine VL.no rfl rfl rfl rfl rfl (by decide) ?_
        refine VL.no rfl rfl rfl rfl rfl (by decide) ?_
        refine VL.no rfl rfl rfl rfl rfl (by decide) ?_
        refine VL.no rfl rfl rfl rfl rfl (by decide) ?_
        refine VL.no rfl rfl rfl rfl rfl (by decide) ?_
        refine VL.no rfl rfl rfl rfl rfl (by decide) ?_
        refine VL.no rfl rfl rfl rfl rfl (by decide) ?_
        refine VL.no rfl rfl rfl rfl rfl (by decide) ?_
        refine VL.no rfl rfl rfl rfl rfl (by decide) ?_
        refine VL.no rfl rfl rfl rfl rfl (by decide) ?_
        refine VL.r (.inl rfl) rfl (by decide) (yr_pick_f (u := .bool false) rfl rfl rfl) ?_
        refine VL.r (.inl rfl) rfl (by decide) (yr_assign rfl rfl) ?_
        refine VL.nil ?_
        refine VE.then_wp ?_
        refine V.ret ?_
        refine ret1 rfl rfl (fun w1 hw => ?_)
        first
          | exact ⟨congrArg Value.bool (meshOk_no1 (f := (f1, f2, f3)) (by assumption)), hw.below⟩
          | exact ⟨congrArg Value.bool (meshOk_no2 (by assumption)), hw.below⟩
          | exact ⟨congrArg Value.bool (meshOk_no3 (by assumption)), hw.below⟩
          | exact ⟨congrArg Value.bool (meshOk_no3 (szOk_no1 (by assumption)).symm), hw.below⟩
          | exact ⟨congrArg Value.bool (meshOk_no3 (szOk_no2 (by assumption)).symm), hw.below⟩
          | exact ⟨congrArg Value.bool (meshOk_no3 (szOk_no3 (by assumption)).symm), hw.below⟩
          | exact ⟨congrArg Value.bool (meshOk_no3 (szOk_no4 (by omega))), hw.below⟩
          | exact ⟨congrArg Value.bool (meshOk_last (f := (f1, f2, f3)) (by assumption) (by assumption) (by assumption)), hw.below⟩
          | exact ⟨congrArg Value.bool (meshOk_last (f := (f1, f2, f3)) (by assumption) (by assumption) (szOk_yes (by assumption) (by assumption) (by assumption) (by omega))), hw.below⟩
    · skip
      refine VL.no rfl rfl rfl rfl rfl (by decide) ?_
      refine VL.no rfl rfl rfl rfl rfl (by decide) ?_
      refine VL.no rfl rfl rfl rfl rfl (by decide) ?_
      refine VL.r (.inl rfl) rfl (by decide) (yr_pick_f (u := .bool false) rfl rfl rfl) ?_
      refine VL.r (.inl rfl) rfl (by decide) (yr_move rfl rfl) ?_
      refine VL.no rfl rfl rfl rfl rfl (by decide) ?_
      refine VL.no rfl rfl rfl rfl rfl (by decide) ?_
      refine VL.no rfl rfl rfl rfl rfl (by decide) ?_
      refine VL.r (.inl rfl) rfl (by decide) (yr_pick_f (u := .bool false) rfl rfl rfl) ?_
      refine VL.r (.inl rfl) rfl (by decide) (yr_move rfl rfl) ?_
      refine VL.no rfl rfl rfl rfl rfl (by decide) ?_
      refine VL.no rfl rfl rfl rfl rfl (by decide) ?_
      refine VL.no rfl rfl rfl rfl rfl (by decide) ?_
      refine VL.r (.inl rfl) rfl (by decide) (yr_pick_f (u := .bool false) rfl rfl rfl) ?_
      refine VL.r (.inl rfl) rfl (by decide) (yr_move rfl rfl) ?_
      refine VL.no rfl rfl rfl rfl rfl (by decide) ?_
      refine VL.no rfl rfl rfl rfl rfl (by decide) ?_
      refine VL.no rfl rfl rfl rfl rfl (by decide) ?_
      refine VL.no rfl rfl rfl rfl rfl (by decide) ?_
      refine VL.no rfl rfl rfl rfl rfl (by decide) ?_
      refine VL.no rfl rfl rfl rfl rfl (by decide) ?_
      refine VL.no rfl rfl rfl rfl rfl (by decide) ?_
      refine VL.no rfl rfl rfl rfl rfl (by decide) ?_
      refine VL.no rfl rfl rfl rfl rfl (by decide) ?_
      refine VL.r (.inl rfl) rfl (by decide) (yr_pick_f (u := .bool false) rfl rfl rfl) ?_
      refine VL.r (.inl rfl) rfl (by decide) (yr_move rfl rfl) ?_
      refine VL.no rfl rfl rfl rfl rfl (by decide) ?_
      refine VL.no rfl rfl rfl rfl rfl (by decide) ?_
      refine VL.no rfl rfl rfl rfl rfl (by decide) ?_
      refine VL.no rfl rfl rfl rfl rfl (by decide) ?_
      refine VL.no rfl rfl rfl rfl rfl (by decide) ?_
      refine VL.no rfl rfl rfl rfl rfl (by decide) ?_
      refine VL.no rfl rfl rfl rfl rfl (by decide) ?_
      refine VL.no rfl rfl rfl rfl rfl (by decide) ?_
      refine VL.no rfl rfl rfl rfl rfl (by decide) ?_
      refine VL.no rfl rfl rfl rfl rfl (by decide) ?_
      refine VL.no rfl rfl rfl rfl rfl (by decide) ?_
      refine VL.no rfl rfl rfl rfl rfl (by decide) ?_
      refine VL.r (.inl rfl) rfl (by decide) (yr_pick_f (u := .bool false) rfl rfl rfl) ?_
      refine VL.r (.inl rfl) rfl (by decide) (yr_assign rfl rfl) ?_
      refine VL.nil ?_
      refine VE.then_wp ?_
      refine V.ret ?_
      refine ret1 rfl rfl (fun w1 hw => ?_)
      first
        | exact ⟨congrArg Value.bool (meshOk_no1 (f := (f1, f2, f3)) (by assumption)), hw.below⟩
        | exact ⟨congrArg Value.bool (meshOk_no2 (by assumption)), hw.below⟩
        | exact ⟨congrArg Value.bool (meshOk_no3 (by assumption)), hw.below⟩
        | exact ⟨congrArg Value.bool (meshOk_no3 (szOk_no1 (by assumption)).symm), hw.below⟩
        | exact ⟨congrArg Value.bool (meshOk_no3 (szOk_no2 (by assumption)).symm), hw.below⟩
        | exact ⟨congrArg Value.bool (meshOk_no3 (szOk_no3 (by assumption)).symm), hw.below⟩
        | exact ⟨congrArg Value.bool (meshOk_no3 (szOk_no4 (by omega))), hw.below⟩
        | exact ⟨congrArg Value.bool (meshOk_last (f := (f1, f2, f3)) (by assumption) (by assumption) (by assumption)), hw.below⟩
        | exact ⟨congrArg Value.bool (meshOk_last (f := (f1, f2, f3)) (by assumption) (by assumption) (szOk_yes (by assumption) (by assumption) (by assumption) (by omega))), hw.below⟩
  · skip
    refine VL.no rfl rfl rfl rfl rfl (by decide) ?_
    refine VL.no rfl rfl rfl rfl rfl (by decide) ?_
    refine VL.no rfl rfl rfl rfl rfl (by decide) ?_
    refine VL.r (.inl rfl) rfl (by decide) (yr_pick_f (u := .bool false) rfl rfl rfl) ?_
    refine VL.r (.inl rfl) rfl (by decide) (yr_move rfl rfl) ?_
    refine VL.no rfl rfl rfl rfl rfl (by decide) ?_
    refine VL.no rfl rfl rfl rfl rfl (by decide) ?_
    refine VL.no rfl rfl rfl rfl rfl (by decide) ?_
    refine VL.r (.inl rfl) rfl (by decide) (yr_pick_f (u := .bool false) rfl rfl rfl) ?_
    refine VL.r (.inl rfl) rfl (by decide) (yr_move rfl rfl) ?_
    refine VL.no rfl rfl rfl rfl rfl (by decide) ?_
    refine VL.no rfl rfl rfl rfl rfl (by decide) ?_
    refine VL.no rfl rfl rfl rfl rfl (by decide) ?_
    refine VL.r (.inl rfl) rfl (by decide) (yr_pick_f (u := .bool false) rfl rfl rfl) ?_
    refine VL.r (.inl rfl) rfl (by decide) (yr_move rfl rfl) ?_
    refine VL.no rfl rfl rfl rfl rfl (by decide) ?_
    refine VL.no rfl rfl rfl rfl rfl (by decide) ?_
    refine VL.no rfl rfl rfl rfl rfl (by decide) ?_
    refine VL.r (.inl rfl) rfl (by decide) (yr_pick_f (u := .bool false) rfl rfl rfl) ?_
    refine VL.r (.inl rfl) rfl (by decide) (yr_move rfl rfl) ?_
    refine VL.no rfl rfl rfl rfl rfl (by decide) ?_
    refine VL.no rfl rfl rfl rfl rfl (by decide) ?_
    refine VL.no rfl rfl rfl rfl rfl (by decide) ?_
    refine VL.no rfl rfl rfl rfl rfl (by decide) ?_
    refine VL.no rfl rfl rfl rfl rfl (by decide) ?_
    refine VL.no rfl rfl rfl rfl rfl (by decide) ?_
    refine VL.no rfl rfl rfl rfl rfl (by decide) ?_
    refine VL.no rfl rfl rfl rfl rfl (by decide) ?_
    refine VL.no rfl rfl rfl rfl rfl (by decide) ?_
    refine VL.r (.inl rfl) rfl (by decide) (yr_pick_f (u := .bool false) rfl rfl rfl) ?_
    refine VL.r (.inl rfl) rfl (by decide) (yr_move rfl rfl) ?_
    refine VL.no rfl rfl rfl rfl rfl (by decide) ?_
    refine VL.no rfl rfl rfl rfl rfl (by decide) ?_
    refine VL.no rfl rfl rfl rfl rfl (by decide) ?_
    refine VL.no rfl rfl rfl rfl rfl (by decide) ?_
    refine VL.no rfl rfl rfl rfl rfl (by decide) ?_
    refine VL.no rfl rfl rfl rfl rfl (by decide) ?_
    refine VL.no rfl rfl rfl rfl rfl (by decide) ?_
    refine VL.no rfl rfl rfl rfl rfl (by decide) ?_
    refine VL.no rfl rfl rfl rfl rfl (by decide) ?_
    refine VL.no rfl rfl rfl rfl rfl (by decide) ?_
    refine VL.no rfl rfl rfl rfl rfl (by decide) ?_
    refine VL.no rfl rfl rfl rfl rfl (by decide) ?_
    refine VL.r (.inl rfl) rfl (by decide) (yr_pick_f (u := .bool false) rfl rfl rfl) ?_
    refine VL.r (.inl rfl) rfl (by decide) (yr_assign rfl rfl) ?_
    refine VL.nil ?_
    refine VE.then_wp ?_
    refine V.ret ?_
    refine ret1 rfl rfl (fun w1 hw => ?_)
    first
      | exact ⟨congrArg Value.bool (meshOk_no1 (f := (f1, f2, f3)) (by assumption)), hw.below⟩
      | exact ⟨congrArg Value.bool (meshOk_no2 (by assumption)), hw.below⟩
      | exact ⟨congrArg Value.bool (meshOk_no3 (by assumption)), hw.below⟩
      | exact ⟨congrArg Value.bool (meshOk_no3 (szOk_no1 (by assumption)).symm), hw.below⟩
      | exact ⟨congrArg Value.bool (meshOk_no3 (szOk_no2 (by assumption)).symm), hw.below⟩
      | exact ⟨congrArg Value.bool (meshOk_no3 (szOk_no3 (by assumption)).symm), hw.below⟩
      | exact ⟨congrArg Value.bool (meshOk_no3 (szOk_no4 (by omega))), hw.below⟩
      | exact ⟨congrArg Value.bool (meshOk_last (f := (f1, f2, f3)) (by assumption) (by assumption) (by assumption)), hw.below⟩
      | exact ⟨congrArg Value.bool (meshOk_last (f := (f1, f2, f3)) (by assumption) (by assumption) (szOk_yes (by assumption) (by assumption) (by assumption) (by omega))), hw.below⟩

theorem c_place {w : World} {f1 f2 f3 st : Nat} {wi hi de : Int} {a : Option Addr} {m c : Nat} {x y z : Nat} : Pure Try.prog 68 [.agg #[.float .f32 f1, .float .f32 f2, .float .f32 f3, .float .f32 st, .int .i64 wi, .int .i64 hi, .int .i64 de, .slice a m c], .float .f32 x, .float .f32 y, .float .f32 z] w (vv (place3 (f1, f2, f3) st x y z)) := by
  refine Pure.enter Try.func68 rfl Try.ntmps68 (Nat.le_of_ble_eq_true rfl) ?_
  refine V.seq ?_
  refine V.region ?_
  refine VL.new1 (.inl rfl) rfl (by decide) (yn_box rfl rfl (.inr ⟨rfl, rfl⟩)) ?_
  intro b4
  refine VL.new1 (.inl rfl) rfl (by decide) (yn_alloc rfl zero27_MeshB rfl) ?_
  intro b8
  refine VL.nil ?_
  refine VE.then_wp ?_
  refine V.seq ?_
  refine V.region ?_
  refine VL.r (.inl rfl) rfl (by decide) (yr_fieldAddr rfl Try.underlying30 rfl rfl sz27_MeshB (by decide) rfl) ?_
  refine VL.q (.inl rfl) rfl (by decide) (yq_loadS rfl Try.underlying27 sz27_MeshB rfl (by first | exact Sees.root (by assumption) | exact Sees.own (by repeat (first | exact List.mem_cons_self | exact List.mem_append_left _ (by assumption) | apply List.mem_cons_of_mem | apply List.mem_append_right)) | exact Sees.root (hR _ (by omega)) | exact Sees.own (RowsIn.mem (by repeat (first | exact RowsIn.here | exact RowsIn.last | apply RowsIn.there | apply RowsIn.thereS)) _ (by omega)) | exact Sees.own (WRowsIn.mem (by repeat (first | exact WRowsIn.here | exact WRowsIn.last | apply WRowsIn.there | apply WRowsIn.thereS)) _ (by omega))) rfl rfl rfl) ?_
  refine VL.r (.inl rfl) rfl (by decide) (yr_move rfl rfl) ?_
  refine VL.r (.inl rfl) rfl (by decide) (yr_fieldAddr rfl Try.underlying30 rfl rfl sz23_MeshB (by decide) rfl) ?_
  refine VL.q (.inl rfl) rfl (by decide) (yq_load rfl fb23_MeshB rfl (by first | exact Sees.root (by assumption) | exact Sees.own (by repeat (first | exact List.mem_cons_self | exact List.mem_append_left _ (by assumption) | apply List.mem_cons_of_mem | apply List.mem_append_right)) | exact Sees.root (hR _ (by omega)) | exact Sees.own (RowsIn.mem (by repeat (first | exact RowsIn.here | exact RowsIn.last | apply RowsIn.there | apply RowsIn.thereS)) _ (by omega)) | exact Sees.own (WRowsIn.mem (by repeat (first | exact WRowsIn.here | exact WRowsIn.last | apply WRowsIn.there | apply WRowsIn.thereS)) _ (by omega))) rfl) ?_
  refine VL.r (.inl rfl) rfl (by decide) (yr_float rfl (.inr (.inr (.inl rfl))) rfl rfl) ?_
  refine VL.r (.inl rfl) rfl (by decide) (yr_move rfl rfl) ?_
  refine VL.r (.inl rfl) rfl (by decide) (yr_fieldAddr rfl Try.underlying30 rfl rfl sz23_MeshB (by decide) rfl) ?_
  refine VL.q (.inl rfl) rfl (by decide) (yq_load rfl fb23_MeshB rfl (by first | exact Sees.root (by assumption) | exact Sees.own (by repeat (first | exact List.mem_cons_self | exact List.mem_append_left _ (by assumption) | apply List.mem_cons_of_mem | apply List.mem_append_right)) | exact Sees.root (hR _ (by omega)) | exact Sees.own (RowsIn.mem (by repeat (first | exact RowsIn.here | exact RowsIn.last | apply RowsIn.there | apply RowsIn.thereS)) _ (by omega)) | exact Sees.own (WRowsIn.mem (by repeat (first | exact WRowsIn.here | exact WRowsIn.last | apply WRowsIn.there | apply WRowsIn.thereS)) _ (by omega))) rfl) ?_
  refine VL.r (.inl rfl) rfl (by decide) (yr_float rfl (.inr (.inr (.inl rfl))) rfl rfl) ?_
  refine VL.r (.inl rfl) rfl (by decide) (yr_move rfl rfl) ?_
  refine VL.r (.inl rfl) rfl (by decide) (yr_fieldAddr rfl Try.underlying30 rfl rfl sz23_MeshB (by decide) rfl) ?_
  refine VL.q (.inl rfl) rfl (by decide) (yq_load rfl fb23_MeshB rfl (by first | exact Sees.root (by assumption) | exact Sees.own (by repeat (first | exact List.mem_cons_self | exact List.mem_append_left _ (by assumption) | apply List.mem_cons_of_mem | apply List.mem_append_right)) | exact Sees.root (hR _ (by omega)) | exact Sees.own (RowsIn.mem (by repeat (first | exact RowsIn.here | exact RowsIn.last | apply RowsIn.there | apply RowsIn.thereS)) _ (by omega)) | exact Sees.own (WRowsIn.mem (by repeat (first | exact WRowsIn.here | exact WRowsIn.last | apply WRowsIn.there | apply WRowsIn.thereS)) _ (by omega))) rfl) ?_
  refine VL.r (.inl rfl) rfl (by decide) (yr_float rfl (.inr (.inr (.inl rfl))) rfl rfl) ?_
  refine VL.r (.inl rfl) rfl (by decide) (yr_build rfl lay27_MeshB rfl (.cons rfl (.cons rfl (.cons rfl .nil))) (by first | (simp; done) | (simp [vv]; done) | (simp [cn, cn1, cn0]; done)) rfl) ?_
  refine VL.q (.inl rfl) rfl (by decide) (yq_callf rfl known52_MeshB (.cons rfl (.cons rfl .nil)) (fun w hw => c_add3)) ?_
  refine VL.s (.inl rfl) rfl (yc_store rfl sz27_MeshB rfl rfl (by repeat (first | exact UpdF.here | apply UpdF.there | apply UpdF.thereS)) (.inr ⟨rfl, rfl⟩) rfl (by first | exact Nat.le_of_ble_eq_true rfl | simp) (by decide) rfl) ?_
  rintro ⟨⟩
  refine VL.nil ?_
  refine VE.then_wp ?_
  refine V.ret ?_
  refine retC rfl (rv_cellS rfl Try.underlying27 sz27_MeshB (by first | exact Sees.root (by assumption) | exact Sees.own (by repeat (first | exact List.mem_cons_self | exact List.mem_append_left _ (by assumption) | apply List.mem_cons_of_mem | apply List.mem_append_right)) | exact Sees.root (hR _ (by omega)) | exact Sees.own (RowsIn.mem (by repeat (first | exact RowsIn.here | exact RowsIn.last | apply RowsIn.there | apply RowsIn.thereS)) _ (by omega)) | exact Sees.own (WRowsIn.mem (by repeat (first | exact WRowsIn.here | exact WRowsIn.last | apply WRowsIn.there | apply WRowsIn.thereS)) _ (by omega))) rfl rfl rfl) (by nofun) (fun w1 hw => ?_)
  exact ⟨rfl, hw.below⟩

theorem c_at {w : World} {f1 f2 f3 st W H D : Nat} {a : Option Addr} {c : Nat} {vs : List V3} {x y z : Nat} (hA : Cl w a (vl vs)) (hN : vs.length = W * H * D) (hbd : W * H * D ≤ 216) (hx : x < W) (hy : y < H) (hz : z < D) : Pure Try.prog 103 [.agg #[.float .f32 f1, .float .f32 f2, .float .f32 f3, .float .f32 st, .int .i64 (W : Int), .int .i64 (H : Int), .int .i64 (D : Int), .slice a vs.length c], .int .i64 (x : Int), .int .i64 (y : Int), .int .i64 (z : Int)] w (vv (mval vs W H x y z)) := by
  refine Pure.enter Try.func103 rfl Try.ntmps103 (Nat.le_of_ble_eq_true rfl) ?_
  have hnd := nd_facts (x := x) hx hy hz hbd
  unfold nd at hnd
  have hW8 : W ≤ 216 := by have := Nat.le_mul_of_pos_right W (show 0 < H * D from Nat.mul_pos (by omega) (by omega)); rw [← Nat.mul_assoc] at this; omega
  have hH8 : H ≤ 216 := by have := Nat.le_mul_of_pos_left H (show 0 < W * D from Nat.mul_pos (by omega) (by omega)); rw [Nat.mul_right_comm] at this; omega
  have hD8 : D ≤ 216 := by have := Nat.le_mul_of_pos_left D (show 0 < W * H from Nat.mul_pos (by omega) (by omega)); omega
  refine V.seq ?_
  refine V.region ?_
  refine VL.new1 (.inl rfl) rfl (by decide) (yn_box rfl rfl (.inr ⟨rfl, rfl⟩)) ?_
  intro b4
  refine VL.new1 (.inl rfl) rfl (by decide) (yn_alloc rfl zero27_MeshB rfl) ?_
  intro b8
  refine VL.nil ?_
  refine VE.then_wp ?_
  refine V.seq ?_
  refine V.region ?_
  refine VL.r (.inl rfl) rfl (by decide) (yr_fieldAddr rfl Try.underlying30 rfl rfl sz28_MeshB (by decide) rfl) ?_
  refine VL.q (.inl rfl) rfl (by decide) (yq_load rfl fb28_MeshB rfl (by first | exact Sees.root (by assumption) | exact Sees.own (by repeat (first | exact List.mem_cons_self | exact List.mem_append_left _ (by assumption) | apply List.mem_cons_of_mem | apply List.mem_append_right)) | exact Sees.root (hR _ (by omega)) | exact Sees.own (RowsIn.mem (by repeat (first | exact RowsIn.here | exact RowsIn.last | apply RowsIn.there | apply RowsIn.thereS)) _ (by omega)) | exact Sees.own (WRowsIn.mem (by repeat (first | exact WRowsIn.here | exact WRowsIn.last | apply WRowsIn.there | apply WRowsIn.thereS)) _ (by omega))) rfl) ?_
  refine VL.r (.inl rfl) rfl (by decide) (yr_move rfl rfl) ?_
  refine VL.r (.inl rfl) rfl (by decide) (yr_fieldAddr rfl Try.underlying30 rfl rfl sz2_MeshB (by decide) rfl) ?_
  refine VL.q (.inl rfl) rfl (by decide) (yq_load rfl fb2_MeshB rfl (by first | exact Sees.root (by assumption) | exact Sees.own (by repeat (first | exact List.mem_cons_self | exact List.mem_append_left _ (by assumption) | apply List.mem_cons_of_mem | apply List.mem_append_right)) | exact Sees.root (hR _ (by omega)) | exact Sees.own (RowsIn.mem (by repeat (first | exact RowsIn.here | exact RowsIn.last | apply RowsIn.there | apply RowsIn.thereS)) _ (by omega)) | exact Sees.own (WRowsIn.mem (by repeat (first | exact WRowsIn.here | exact WRowsIn.last | apply WRowsIn.there | apply WRowsIn.thereS)) _ (by omega))) rfl) ?_
  refine VL.r (.inl rfl) rfl (by decide) (yr_move rfl rfl) ?_
  refine VL.r (.inl rfl) rfl (by decide) (yr_fieldAddr rfl Try.underlying30 rfl rfl sz2_MeshB (by decide) rfl) ?_
  refine VL.q (.inl rfl) rfl (by decide) (yq_load rfl fb2_MeshB rfl (by first | exact Sees.root (by assumption) | exact Sees.own (by repeat (first | exact List.mem_cons_self | exact List.mem_append_left _ (by assumption) | apply List.mem_cons_of_mem | apply List.mem_append_right)) | exact Sees.root (hR _ (by omega)) | exact Sees.own (RowsIn.mem (by repeat (first | exact RowsIn.here | exact RowsIn.last | apply RowsIn.there | apply RowsIn.thereS)) _ (by omega)) | exact Sees.own (WRowsIn.mem (by repeat (first | exact WRowsIn.here | exact WRowsIn.last | apply WRowsIn.there | apply WRowsIn.thereS)) _ (by omega))) rfl) ?_
  refine VL.r (.inl rfl) rfl (by decide) (yr_move rfl rfl) ?_
  refine VL.r (.inl rfl) rfl (by decide) (yr_mulN H z rfl rfl rfl (by omega) (by omega) (Nat.le_trans (mul_small (by omega) (by omega)) (by decide))) ?_
  refine VL.r (.inl rfl) rfl (by decide) (yr_int rfl rfl rfl (.inl ⟨rfl, wrap_in (by omega)⟩)) ?_
  refine VL.r (.inl rfl) rfl (by decide) (yr_mulN W (y + (H * z)) rfl rfl rfl (by omega) (by omega) (Nat.le_trans (mul_small (by omega) (by omega)) (by decide))) ?_
  refine VL.r (.inl rfl) rfl (by decide) (yr_int rfl rfl rfl (.inl ⟨rfl, wrap_in (by omega)⟩)) ?_
  refine VL.q (.inl rfl) rfl (by decide) (yq_idxN (k := (x + (W * (y + (H * z))))) rfl Try.underlying28 sz27_MeshB rfl rfl (by first | exact Sees.root (by assumption) | exact Sees.own (by repeat (first | exact List.mem_cons_self | exact List.mem_append_left _ (by assumption) | apply List.mem_cons_of_mem | apply List.mem_append_right)) | exact Sees.root (hR _ (by omega)) | exact Sees.own (RowsIn.mem (by repeat (first | exact RowsIn.here | exact RowsIn.last | apply RowsIn.there | apply RowsIn.thereS)) _ (by omega)) | exact Sees.own (WRowsIn.mem (by repeat (first | exact WRowsIn.here | exact WRowsIn.last | apply WRowsIn.there | apply WRowsIn.thereS)) _ (by omega))) (by first | rfl | omega | (push_cast; rfl) | (push_cast; omega) | exact tmod_nat _ _) (by exact vl_length _) (by decide) (by omega)) ?_
  refine VL.q (.inl rfl) rfl (by decide) (yq_loadV rfl Try.underlying27 sz27_MeshB rfl (by first | exact Sees.root (by assumption) | exact Sees.own (by repeat (first | exact List.mem_cons_self | exact List.mem_append_left _ (by assumption) | apply List.mem_cons_of_mem | apply List.mem_append_right)) | exact Sees.root (hR _ (by omega)) | exact Sees.own (RowsIn.mem (by repeat (first | exact RowsIn.here | exact RowsIn.last | apply RowsIn.there | apply RowsIn.thereS)) _ (by omega)) | exact Sees.own (WRowsIn.mem (by repeat (first | exact WRowsIn.here | exact WRowsIn.last | apply WRowsIn.there | apply WRowsIn.thereS)) _ (by omega))) (by omega)) ?_
  refine VL.s (.inl rfl) rfl (yc_store rfl sz27_MeshB rfl rfl (by repeat (first | exact UpdF.here | apply UpdF.there | apply UpdF.thereS)) (.inr ⟨rfl, rfl⟩) rfl (by first | exact Nat.le_of_ble_eq_true rfl | simp) (by decide) rfl) ?_
  rintro ⟨⟩
  refine VL.nil ?_
  refine VE.then_wp ?_
  refine V.ret ?_
  refine retC rfl (rv_cellS rfl Try.underlying27 sz27_MeshB (by first | exact Sees.root (by assumption) | exact Sees.own (by repeat (first | exact List.mem_cons_self | exact List.mem_append_left _ (by assumption) | apply List.mem_cons_of_mem | apply List.mem_append_right)) | exact Sees.root (hR _ (by omega)) | exact Sees.own (RowsIn.mem (by repeat (first | exact RowsIn.here | exact RowsIn.last | apply RowsIn.there | apply RowsIn.thereS)) _ (by omega)) | exact Sees.own (WRowsIn.mem (by repeat (first | exact WRowsIn.here | exact WRowsIn.last | apply WRowsIn.there | apply WRowsIn.thereS)) _ (by omega))) rfl rfl rfl) (by nofun) (fun w1 hw => ?_)
  exact ⟨rfl, hw.below⟩

end Go.Proofs.Ytfignpiphihgfaa


namespace Go.Proofs.Ytfignpiphihgfaa
open Go.RowKit

/-! ### alike but for the sign of a zero -/
theorem signed0 (s : Bool) (k : Nat) : Ieee.signed s 0 k = 0 := by cases s <;> simp [Ieee.signed]
def zw0 (a : Nat) : Prop := a = 0 ∨ a = 2147483648
def zq (a b : Nat) : Prop := a = b ∨ (zw0 a ∧ zw0 b)
theorem zq.refl (a : Nat) : zq a a := .inl rfl
def zq3 (a b : V3) : Prop := zq a.1 b.1 ∧ zq a.2.1 b.2.1 ∧ zq a.2.2 b.2.2
theorem zq3.refl (a : V3) : zq3 a a := ⟨.refl _, .refl _, .refl _⟩
/-! ### floors -/
def ffl (x : Nat) : Nat := match FloatKind.f64.decode x with | .nan _ _ => qn .f64 | d => FloatKind.f64.encode (d.integral .down)
theorem ext_floor {P : Program} (vs : Array Value) (w : World) {x : Nat} (h : vs.toList.map cn = [.float .f64 x]) : ∃ v w', (Extern.MathFloor.toIntegral "math.archFloor" .down vs).run P w = .ok v w' ∧ cn v = .float .f64 (ffl x) ∧ Below w.heap.size w w' := by
  obtain ⟨b, rfl, rfl⟩ := one_arg h
  cases hn : fnan .f64 b
  · have hd : (FloatKind.f64.decode b).isNaN = false := hn
    have hr : ffl (cb .f64 b) = FloatKind.f64.encode ((FloatKind.f64.decode b).integral .down) := by
      unfold ffl
      rw [show FloatKind.f64.decode (cb .f64 b) = FloatKind.f64.decode b from read_cb hn]
      generalize FloatKind.f64.decode b = dd at hd ⊢
      cases dd <;> first | rfl | simp [Ieee.Datum.isNaN] at hd
    refine ⟨.float .f64 (FloatKind.f64.encode ((FloatKind.f64.decode b).integral .down)), w, ?_, ?_, Below.refl _ _⟩
    · rw [toIntegral_eq]
      generalize FloatKind.f64.decode b = dd at hd ⊢
      cases dd <;> first | rfl | simp [Ieee.Datum.isNaN] at hd
    · simp only [cn, cn1, cn0]
      rw [cb_of_num (k := .f64) (b := FloatKind.f64.encode ((FloatKind.f64.decode b).integral .down)) (write_num Ieee.double (integral_num hd .down)) (encode_lt _ _), hr]
  · obtain ⟨sg, fr, hr⟩ := read_nan hn
    have hd : FloatKind.f64.decode b = .nan sg fr := hr
    have hq : ffl (cb .f64 b) = qn .f64 := by
      obtain ⟨s', f', hr'⟩ := read_nan (k := .f64) (b := cb .f64 b) (by rw [fnan_cb, hn])
      unfold ffl FloatKind.decode
      rw [hr']
    rw [hq]
    rw [toIntegral_eq, hd]
    by_cases hk : FloatKind.f64.format.quiet fr = fr
    · exact ⟨.float .f64 b, w, by simp [hk], by simp [cn, cn1, cn0, cb_of_nan hn], Below.refl _ _⟩
    · simp only [hk, if_false]
      have henc : fnan .f64 (FloatKind.f64.encode (.nan sg (FloatKind.f64.format.quiet fr))) = true := ext_round.quiet_nan sg fr b hd
      refine ⟨_, { w with drawn := w.drawn + 1 }, by simp [choose, Sem.run, Question.forced]; rfl, ?_, below_drew _ _⟩
      simp only [cn, cn1, cn0]
      split
      · rw [cb_of_nan hn]
      · rw [cb_of_nan henc]

/-! ### the node before a place -/
def kOk (k : Nat) : Bool := match FloatKind.f64.decode (FloatKind.f64.nearest (k : Int)) with
  | .number s m e => !s && decide (-1074 ≤ e) && decide (e ≤ 0) && m == k * 2 ^ (-e).toNat
  | _ => false
theorem kOk_all : ∀ k : Fin 215, kOk k = true := by decide +kernel
theorem kOk_is {k : Nat} (hk : k ≤ 214) : ∃ m e, FloatKind.f64.decode (FloatKind.f64.nearest (k : Int)) = .number false m e ∧ -1074 ≤ e ∧ e ≤ 0 ∧ m = k * 2 ^ (-e).toNat := by
  have h := kOk_all ⟨k, by omega⟩
  unfold kOk at h
  simp only at h
  generalize FloatKind.f64.decode (FloatKind.f64.nearest (k : Int)) = d at h ⊢
  cases d with
  | nan => cases h
  | infinity => cases h
  | number s m e =>
    simp only [Bool.and_eq_true, Bool.not_eq_true', decide_eq_true_eq, beq_iff_eq] at h
    obtain ⟨⟨⟨rfl, h2⟩, h3⟩, h4⟩ := h
    exact ⟨m, e, rfl, h2, h3, h4⟩
theorem cutz_le (s : Bool) (n d : Nat) : Ieee.Toward.zero.cut s n d ≤ n / 2 ^ d := by
  unfold Ieee.Toward.cut
  simp only [Bool.toNat_false, Nat.add_zero, Nat.shiftLeft_eq, Nat.one_mul]
  by_cases h : d ≤ n.log2 + 2
  · rw [Nat.min_eq_left h]; exact Nat.le_refl _
  · rw [Nat.min_eq_right (by omega)]
    have : n / 2 ^ (n.log2 + 2) = 0 := Nat.div_eq_of_lt (Nat.lt_of_lt_of_le Nat.lt_log2_self (Nat.pow_le_pow_right (by decide) (by omega)))
    rw [this]; exact Nat.zero_le _
theorem icompare_gt {x y : Int} (h : compare x y ≠ .gt) : x ≤ y := by
  by_cases hxy : x ≤ y
  · exact hxy
  · exfalso
    apply h
    show compareOfLessAndEq x y = .gt
    unfold compareOfLessAndEq
    rw [if_neg (by omega), if_neg (by omega)]
theorem icompare_lt {x y : Int} (h : compare x y ≠ .lt) : y ≤ x := by
  by_cases hxy : y ≤ x
  · exact hxy
  · exfalso
    apply h
    show compareOfLessAndEq x y = .lt
    unfold compareOfLessAndEq
    rw [if_pos (by omega)]
theorem num_cell {x k : Nat} (hk : k ≤ 214) (h1 : fcmp .geq .f64 x 0 = true) (h2 : fcmp .gtr .f64 x (FloatKind.f64.nearest (k : Int)) = false) :
    ∃ i : Nat, i ≤ k ∧ floatToIntVal .f64 x .i64 = some (i : Int) ∧ fover .f64 .f32 x = false := by
  obtain ⟨mk, ek, hK, he1, he2, hmk⟩ := kOk_is hk
  have hz : Ieee.double.read 0 = .number false 0 (-1074) := by decide
  have hg : ((Ieee.double.read x).order (Ieee.double.read 0) == some .gt || (Ieee.double.read x).order (Ieee.double.read 0) == some .eq) = true := h1
  have hn : ((Ieee.double.read x).order (Ieee.double.read (FloatKind.f64.nearest (k : Int))) == some .gt) = false := h2
  rw [hz] at hg
  rw [show Ieee.double.read (FloatKind.f64.nearest (k : Int)) = .number false mk ek from hK] at hn
  cases hx : Ieee.double.read x with
  | nan => rw [hx] at hg; simp [Ieee.Datum.order] at hg
  | infinity s =>
    rw [hx] at hg hn
    cases s <;> simp [Ieee.Datum.order] at hg hn
  | number s m e =>
    have hx' : FloatKind.f64.decode x = .number s m e := hx
    obtain ⟨b1, b2, b3, b4⟩ := decode_double_bound hx'
    rw [hx] at hg hn
    simp only [Ieee.Datum.order, signed0] at hg hn
    have hpos : 0 ≤ Ieee.signed s m (e - min e (-1074)).toNat := by
      refine icompare_lt ?_
      intro hc
      rw [hc] at hg
      simp at hg
    have hle : Ieee.signed s m (e - min e ek).toNat ≤ Ieee.signed false mk (ek - min e ek).toNat := by
      refine icompare_gt ?_
      intro hc
      rw [hc] at hn
      simp at hn
    have hsm : s = false ∨ m = 0 := by
      cases s
      · exact .inl rfl
      · right
        unfold Ieee.signed at hpos
        simp only [if_true, shl_eq] at hpos
        rcases Nat.eq_zero_or_pos m with h | h
        · exact h
        · exfalso
          have := Nat.mul_pos h (pow_pos' ((e - min e (-1074)).toNat))
          omega
    have hsig : ∀ u, Ieee.signed s m u = ((m <<< u : Nat) : Int) := by
      intro u
      rcases hsm with rfl | rfl
      · rfl
      · rw [signed0]; simp
    rw [hsig] at hle
    have hle' : m * 2 ^ (e - min e ek).toNat ≤ mk * 2 ^ (ek - min e ek).toNat := by
      have : ((m <<< (e - min e ek).toNat : Nat) : Int) ≤ ((mk <<< (ek - min e ek).toNat : Nat) : Int) := hle
      rw [shl_eq, shl_eq] at this
      exact_mod_cast this
    -- m * 2 ^ e ≤ k
    have hval : (e ≤ 0 → m ≤ k * 2 ^ (-e).toNat) ∧ (0 < e → m * 2 ^ e.toNat ≤ k) := by
      rcases Int.le_total e ek with hee | hee
      · have e1 : (e - min e ek).toNat = 0 := by omega
        rw [e1, Nat.pow_zero, Nat.mul_one, hmk, Nat.mul_assoc, ← Nat.pow_add, show (-ek).toNat + (ek - min e ek).toNat = (-e).toNat by omega] at hle'
        exact ⟨fun _ => hle', fun h => by omega⟩
      · have e1 : (ek - min e ek).toNat = 0 := by omega
        rw [e1, Nat.pow_zero, Nat.mul_one, hmk] at hle'
        constructor
        · intro h
          have e2 : (-ek).toNat = (-e).toNat + (e - min e ek).toNat := by omega
          rw [e2, Nat.pow_add, ← Nat.mul_assoc] at hle'
          exact Nat.le_of_mul_le_mul_right hle' (pow_pos' _)
        · intro h
          have e2 : (e - min e ek).toNat = e.toNat + (-ek).toNat := by omega
          rw [e2, Nat.pow_add, ← Nat.mul_assoc] at hle'
          exact Nat.le_of_mul_le_mul_right hle' (pow_pos' _)
    have hcut : Ieee.Toward.zero.cut s (m <<< e.toNat) (-e).toNat ≤ k := by
      refine Nat.le_trans (cutz_le _ _ _) ?_
      rw [shl_eq]
      rcases Int.le_total e 0 with h | h
      · rw [show e.toNat = 0 by omega, Nat.pow_zero, Nat.mul_one]
        exact Nat.div_le_of_le_mul (by rw [Nat.mul_comm]; exact hval.1 h)
      · rcases Int.le_iff_lt_or_eq.1 h with h' | h'
        · rw [show (-e).toNat = 0 by omega, Nat.pow_zero, Nat.div_one]; exact hval.2 h'
        · rw [← h'] at hval ⊢
          simpa using hval.1 (Int.le_refl _)
    refine ⟨Ieee.Toward.zero.cut s (m <<< e.toNat) (-e).toNat, hcut, ?_, ?_⟩
    · unfold floatToIntVal
      rw [hx']
      simp only [Ieee.Datum.toInt, Ieee.Datum.integral]
      have hs0 : Ieee.signed s (Ieee.Toward.zero.cut s (m <<< e.toNat) (-e).toNat) 0 = ((Ieee.Toward.zero.cut s (m <<< e.toNat) (-e).toNat : Nat) : Int) := by
        rcases hsm with rfl | rfl
        · simp [Ieee.signed]
        · have h0 : Ieee.Toward.zero.cut s (0 <<< e.toNat) (-e).toNat = 0 := Nat.le_zero.1 (Nat.le_trans (cutz_le _ _ _) (by simp))
          rw [h0, signed0]; rfl
      rw [hs0, if_pos]
      have hmin : IntKind.i64.min = -9223372036854775808 := by decide
      have hmax : IntKind.i64.max = 9223372036854775807 := by decide
      rw [hmin, hmax]
      omega
    · refine fover_small hx' ?_
      rcases Nat.eq_zero_or_pos m with h0 | h0
      · subst h0
        have : e = -1074 := by
          rcases b3 with h | h
          · exact h
          · omega
        rw [this]; decide
      · have hlog := Nat.log2_self_le (n := m) (by omega)
        rcases Int.le_total e 0 with h | h
        · have h3 := hval.1 h
          have h4 : 2 ^ m.log2 ≤ 256 * 2 ^ (-e).toNat := Nat.le_trans hlog (Nat.le_trans h3 (Nat.mul_le_mul_right _ (by omega)))
          rw [show (256 : Nat) = 2 ^ 8 from rfl, ← Nat.pow_add] at h4
          have := (Nat.pow_le_pow_iff_right (a := 2) (by decide)).1 h4
          omega
        · have h3 : m * 2 ^ e.toNat ≤ k := by
            rcases Int.le_iff_lt_or_eq.1 h with h' | h'
            · exact hval.2 h'
            · rw [← h'] at hval ⊢; simpa using hval.1 (Int.le_refl _)
          have h4 : 2 ^ (m.log2 + e.toNat) ≤ 2 ^ 8 := by
            rw [Nat.pow_add]
            exact Nat.le_trans (Nat.mul_le_mul_right _ hlog) (Nat.le_trans h3 (by omega))
          have := (Nat.pow_le_pow_iff_right (a := 2) (by decide)).1 h4
          omega

/-- The number before a coordinate: as the program makes it, as the reference makes it. -/
def kN (n : Int) : Nat := FloatKind.f64.nearest (n - 2)
def clampK (n : Int) (x : Nat) : Nat := if fcmp .gtr .f64 x (kN n) then kN n else x
def clI (u : Nat) (n : Int) : Nat := clampK n (if fcmp .geq .f64 (ffl (up u)) 0 then ffl (up u) else 0)
def clS (u : Nat) (n : Int) : Nat := clampK n (if fcmp .gtr .f64 (ffl (up u)) 0 then ffl (up u) else 0)
def cix (x : Nat) : Nat := ((floatToIntVal .f64 x .i64).getD 0).toNat
def celI (u : Nat) (n : Int) : Nat × Nat := if n = 1 then (0, 0) else (cix (clI u n), fop .sub .f32 u (fconv .f64 .f32 (clI u n)))
def celS (u : Nat) (n : Int) : Nat × Nat := if n = 1 then (0, 0) else (cix (clS u n), fop .sub .f32 u (fconv .f64 .f32 (clS u n)))
theorem zero_cells : ∀ k : Fin 215, (fcmp .gtr .f64 0 (FloatKind.f64.nearest (k.val : Int)) || fcmp .gtr .f64 9223372036854775808 (FloatKind.f64.nearest (k.val : Int)) || !fcmp .geq .f64 (FloatKind.f64.nearest (k.val : Int)) 0 || fcmp .gtr .f64 (FloatKind.f64.nearest (k.val : Int)) (FloatKind.f64.nearest (k.val : Int))) = false := by decide +kernel
theorem kN_facts {n : Int} (h : 2 ≤ n ∧ n ≤ 216) : fcmp .gtr .f64 0 (kN n) = false ∧ fcmp .gtr .f64 9223372036854775808 (kN n) = false ∧ fcmp .geq .f64 (kN n) 0 = true ∧ fcmp .gtr .f64 (kN n) (kN n) = false := by
  have h1 := zero_cells ⟨(n - 2).toNat, by omega⟩
  have e : (((n - 2).toNat : Nat) : Int) = n - 2 := by omega
  simp only at h1
  rw [e] at h1
  simp only [Bool.or_eq_false_iff, Bool.not_eq_false'] at h1
  exact ⟨h1.1.1.1, h1.1.1.2, h1.1.2, h1.2⟩
theorem clamp_ok {n : Int} {x : Nat} (h : 2 ≤ n ∧ n ≤ 216) (hx : fcmp .geq .f64 x 0 = true) : ∃ i : Nat, (i : Int) ≤ n - 2 ∧ floatToIntVal .f64 (clampK n x) .i64 = some (i : Int) ∧ fover .f64 .f32 (clampK n x) = false := by
  have e : (((n - 2).toNat : Nat) : Int) = n - 2 := by omega
  obtain ⟨k1, k2, k3, k4⟩ := kN_facts h
  have key : ∀ y, fcmp .geq .f64 y 0 = true → fcmp .gtr .f64 y (kN n) = false → ∃ i : Nat, (i : Int) ≤ n - 2 ∧ floatToIntVal .f64 y .i64 = some (i : Int) ∧ fover .f64 .f32 y = false := by
    intro y h1 h2
    obtain ⟨i, g1, g2, g3⟩ := num_cell (x := y) (k := (n - 2).toNat) (by omega) h1 (by rw [e]; exact h2)
    exact ⟨i, by omega, g2, g3⟩
  unfold clampK
  cases hg : fcmp .gtr .f64 x (kN n)
  · exact key x hx hg
  · exact key (kN n) k3 k4
theorem geq0 : fcmp .geq .f64 0 0 = true := by decide
theorem clI_ok {u : Nat} {n : Int} (h : 2 ≤ n ∧ n ≤ 216) : ∃ i : Nat, (i : Int) ≤ n - 2 ∧ floatToIntVal .f64 (clI u n) .i64 = some (i : Int) ∧ fover .f64 .f32 (clI u n) = false := by
  unfold clI
  refine clamp_ok h ?_
  cases hg : fcmp .geq .f64 (ffl (up u)) 0
  · exact geq0
  · exact hg
theorem cel_lt (u : Nat) {n : Int} (h : 1 ≤ n ∧ n ≤ 216) : (n = 1 → (celI u n).1 = 0) ∧ (n ≠ 1 → ((celI u n).1 : Int) + 1 < n) := by
  unfold celI
  constructor
  · intro h1; rw [if_pos h1]
  · intro h1
    rw [if_neg h1]
    obtain ⟨i, g1, g2, _⟩ := clI_ok (u := u) (n := n) (by omega)
    unfold cix
    rw [g2]
    simp only [Option.getD_some, Int.toNat_natCast]
    omega
/-! ### the value between nodes -/
def rowV (vs : List V3) (W H : Nat) (c : Nat × Nat) (y z : Nat) : V3 := if W = 1 then mval vs W H c.1 y z else between3 (mval vs W H c.1 y z) (mval vs W H (c.1 + 1) y z) c.2
def colV (vs : List V3) (W H : Nat) (c d : Nat × Nat) (z : Nat) : V3 := if H = 1 then rowV vs W H c d.1 z else between3 (rowV vs W H c d.1 z) (rowV vs W H c (d.1 + 1) z) d.2
def valV (vs : List V3) (W H D : Nat) (c d e : Nat × Nat) : V3 := if D = 1 then colV vs W H c d e.1 else between3 (colV vs W H c d e.1) (colV vs W H c d (e.1 + 1)) e.2
def crd (p f st : Nat) : Nat := fop .quo .f32 (fop .sub .f32 p f) st
def valI (vs : List V3) (f : V3) (st W H D : Nat) (p : V3) : V3 := valV vs W H D (celI (crd p.1 f.1 st) W) (celI (crd p.2.1 f.2.1 st) H) (celI (crd p.2.2 f.2.2 st) D)
section
variable {vs : List V3} {W H D y z : Nat} {c c' d d' e e' : Nat × Nat}
end
/-! ### what has no number has no distance -/
/-! ### the worst -/
def hvN (n : Nat) : Nat := if n = 1 then 1 else n - 1
def mid (n x : Nat) : Nat := if n = 1 then 0 else fop .add .f32 (FloatKind.f32.nearest (x : Int)) 1056964608
def hv (n : Nat) : List Nat := (List.range (hvN n)).map (mid n)
def act (n x : Nat) : Bool := decide (n = 1 ∨ x + 1 < n)
section
variable {ws : List Wr} {vs : List V3} {f p : V3} {st W H D x y z k a b s : Nat}
end
section
variable {ws : List Wr} {vs : List V3} {f : V3} {st : Nat} {wi hi de : Int}
end
/-! ### words for the walks -/
section
variable {u : Nat} {n : Int} {X i : Nat}
theorem clI_a (h1 : fcmp .geq .f64 (ffl (up u)) 0 = true) (h2 : fcmp .gtr .f64 (ffl (up u)) (FloatKind.f64.nearest (n - 2)) = true) : clI u n = FloatKind.f64.nearest (n - 2) := by unfold clI clampK kN; simp only [h1, h2, if_true]
theorem clI_b (h1 : fcmp .geq .f64 (ffl (up u)) 0 = true) (h2 : fcmp .gtr .f64 (ffl (up u)) (FloatKind.f64.nearest (n - 2)) = false) : clI u n = ffl (up u) := by unfold clI clampK kN; simp only [h1, h2, if_true, if_false, Bool.false_eq_true]
theorem clI_c (h1 : fcmp .geq .f64 (ffl (up u)) 0 = false) (h2 : fcmp .gtr .f64 0 (FloatKind.f64.nearest (n - 2)) = true) : clI u n = FloatKind.f64.nearest (n - 2) := by unfold clI clampK kN; simp only [h1, h2, if_true, if_false, Bool.false_eq_true]
theorem clI_d (h1 : fcmp .geq .f64 (ffl (up u)) 0 = false) (h2 : fcmp .gtr .f64 0 (FloatKind.f64.nearest (n - 2)) = false) : clI u n = 0 := by unfold clI clampK kN; simp only [h1, h2, if_false, Bool.false_eq_true]
theorem clI_ci (h : 1 ≤ n ∧ n ≤ 216) (h1 : n ≠ 1) : floatToIntVal .f64 (clI u n) .i64 = some ((cix (clI u n) : Nat) : Int) := by
  obtain ⟨i, _, e, _⟩ := clI_ok (u := u) (n := n) (by omega)
  unfold cix; rw [e]; rfl
theorem clI_co (h : 1 ≤ n ∧ n ≤ 216) (h1 : n ≠ 1) : fover .f64 .f32 (clI u n) = false := by
  obtain ⟨i, _, _, e⟩ := clI_ok (u := u) (n := n) (by omega)
  exact e
theorem ci_of {Y : Nat} {j : Int} (e : Y = X) (h : floatToIntVal .f64 Y .i64 = some j) : floatToIntVal .f64 X .i64 = some j := by rw [← e]; exact h
theorem co_of {Y : Nat} (e : Y = X) (h : fover .f64 .f32 Y = false) : fover .f64 .f32 X = false := by rw [← e]; exact h
theorem celI_of (h1 : n ≠ 1) (e : clI u n = X) : Value.tuple #[.int .i64 (cix (clI u n) : Int), .float .f32 (fop .sub .f32 u (fconv .f64 .f32 X))] = .tuple #[.int .i64 ((celI u n).1 : Int), .float .f32 (celI u n).2] := by
  unfold celI; rw [if_neg h1, ← e]
theorem celI_1 (h1 : n = 1) : Value.tuple #[.int .i64 0, .float .f32 0] = .tuple #[.int .i64 ((celI u n).1 : Int), .float .f32 (celI u n).2] := by unfold celI; rw [if_pos h1]; rfl
end
theorem row_1 {vs : List V3} {W H : Nat} {c : Nat × Nat} {y z : Nat} (h : W = 1) : rowV vs W H c y z = mval vs W H c.1 y z := by unfold rowV; rw [if_pos h]
theorem row_n {vs : List V3} {W H : Nat} {c : Nat × Nat} {y z : Nat} (h : W ≠ 1) : rowV vs W H c y z = between3 (mval vs W H c.1 y z) (mval vs W H (c.1 + 1) y z) c.2 := by unfold rowV; rw [if_neg h]
theorem col_1 {vs : List V3} {W H : Nat} {c d : Nat × Nat} {z : Nat} (h : H = 1) : colV vs W H c d z = rowV vs W H c d.1 z := by unfold colV; rw [if_pos h]
theorem col_n {vs : List V3} {W H : Nat} {c d : Nat × Nat} {z : Nat} (h : H ≠ 1) : colV vs W H c d z = between3 (rowV vs W H c d.1 z) (rowV vs W H c (d.1 + 1) z) d.2 := by unfold colV; rw [if_neg h]
theorem val_1 {vs : List V3} {W H D : Nat} {c d e : Nat × Nat} (h : D = 1) : valV vs W H D c d e = colV vs W H c d e.1 := by unfold valV; rw [if_pos h]
theorem val_n {vs : List V3} {W H D : Nat} {c d e : Nat × Nat} (h : D ≠ 1) : valV vs W H D c d e = between3 (colV vs W H c d e.1) (colV vs W H c d (e.1 + 1)) e.2 := by unfold valV; rw [if_neg h]
section
variable {ws : List Wr} {vs : List V3} {f : V3} {st W H D x y z k : Nat}
end
/-! ### remainder, quotient of what is not negative -/
section
variable {P : Program} {E : Env} {o : Oper}
end
end Go.Proofs.Ytfignpiphihgfaa

