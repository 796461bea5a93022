/- Own texts of this claim, merged: WR8, Square, Ridge, Block, Lim, Own, Sign, Drop, Dy, Rt, WDd, WRows, WDesign. -/
import Derived.KernelRfl
import Derived.Deep.Slices
import Derived.Test.YtalimcjmaoapkaaKFnRounded2
namespace Go.Proofs.Ytalimcjmaoapkaa
open Go.RowKit
set_option linter.unusedVariables false
set_option linter.unusedSimpArgs false
set_option maxRecDepth 20000

theorem mixed_R8 : Try.prog.follows .mixedOrders = true := by kernel_rfl
theorem sz3_R8 : (Try.prog.info? 3).map (·.size) = some 1 := by kernel_rfl
theorem fb3_R8 : flatB Try.prog 3 = true := by kernel_rfl
theorem sz22_R8 : (Try.prog.info? 22).map (·.size) = some 1 := by kernel_rfl
theorem fb22_R8 : flatB Try.prog 22 = true := by kernel_rfl
theorem sz5_R8 : (Try.prog.info? 5).map (·.size) = some 1 := by kernel_rfl
theorem fb5_R8 : flatB Try.prog 5 = true := by kernel_rfl
theorem sz58_R8 : (Try.prog.info? 58).map (·.size) = some 1 := by kernel_rfl
theorem fb58_R8 : flatB Try.prog 58 = true := by kernel_rfl
theorem known31_R8 : Known Try.prog 31 := Known.mk' Try.func31 (by kernel_rfl)
theorem lay60_R8 : Lay Try.prog 60 [Value.slice none 0 0, Value.int .i64 0, Value.int .u64 0] [(0, 1), (1, 1), (2, 1)] := Lay.mk' (by kernel_rfl) (by kernel_rfl)
attribute [local irreducible] fop fcmp fconv fneg fabs List.getD qw hqw uw

theorem c_next {w0 : World} {a : Option Addr} {c q n sd : Nat} {bs : List Int} (hA : Cl w0 a (bl bs)) (hb : Bytes bs) (hl : bs.length ≤ 2000000) (hn : n ≤ 100000) (hsd : sd < 18446744073709551616) : Mut Try.prog 31 [.pointer (some (adr (some ⟨q, 0, none⟩) 0))] w0 [⟨some ⟨q, 0, none⟩, [.slice a bs.length c, .int .i64 ((n : Nat) : Int), .int .u64 ((sd : Nat) : Int)], 3, 60⟩] (fun x : {x : Nat × Nat // x.1 < 256 ∧ x.2 < 18446744073709551616} => .int .i64 ((x.1.1 : Nat) : Int)) (fun x => [⟨some ⟨q, 0, none⟩, [.slice a bs.length c, .int .i64 ((n + 1 : Nat) : Int), .int .u64 ((x.1.2 : Nat) : Int)], 3, 60⟩]) := by
  refine Mut.enter Try.func31 rfl Try.ntmps31 (Nat.le_of_ble_eq_true rfl) ?_
  intro F
  refine V.seq ?_
  refine V.region ?_
  refine VL.r (.inl rfl) rfl (by decide) (yr_assign (u := .int .i64 0) rfl rfl) ?_
  refine VL.nil ?_
  refine VE.then_wp ?_
  refine V.seq ?_
  refine V.region ?_
  refine VL.r (.inl rfl) rfl (by decide) (yr_assign (u := .int .i64 0) rfl rfl) ?_
  refine VL.nil ?_
  refine VE.then_wp ?_
  refine V.seq ?_
  refine V.seq ?_
  refine V.draw [(0, 0), (1, 0), (2, 0), (3, 0), (4, 0), (5, 0), (6, 0), (7, 0), (8, 0), (9, 0)] mixed_R8 (by kernel_rfl) (by intro j o hj; simp at hj) ?_
  refine SW.r rfl (.inl rfl) rfl (by decide) (yr_move rfl rfl) ?_
  refine SW.r rfl (.inl rfl) rfl (by decide) (yr_nilCheck rfl rfl) ?_
  refine SW.r rfl (.inl rfl) rfl (by decide) (yr_fieldAddr rfl Try.underlying60 rfl rfl sz3_R8 (by decide) rfl) ?_
  refine SW.q rfl (.inl rfl) rfl (by decide) (yq_load rfl fb3_R8 rfl (by first | exact Sees.root (by assumption) | exact Sees.own (by repeat (first | exact List.mem_cons_self | exact List.mem_append_left _ (by assumption) | apply List.mem_cons_of_mem | apply List.mem_append_right)) | exact Sees.root (hR _ (by omega)) | exact Sees.own (RowsIn.mem (by repeat (first | exact RowsIn.here | exact RowsIn.last | apply RowsIn.there | apply RowsIn.thereS)) _ (by omega)) | exact Sees.own (WRowsIn.mem (by repeat (first | exact WRowsIn.here | exact WRowsIn.last | apply WRowsIn.there | apply WRowsIn.thereS)) _ (by omega))) rfl) ?_
  refine SW.r rfl (.inl rfl) rfl (by decide) (yr_move rfl rfl) ?_
  refine SW.r rfl (.inl rfl) rfl (by decide) (yr_nilCheck rfl rfl) ?_
  refine SW.r rfl (.inl rfl) rfl (by decide) (yr_fieldAddr rfl Try.underlying60 rfl rfl sz22_R8 (by decide) rfl) ?_
  refine SW.q rfl (.inl rfl) rfl (by decide) (yq_load rfl fb22_R8 rfl (by first | exact Sees.root (by assumption) | exact Sees.own (by repeat (first | exact List.mem_cons_self | exact List.mem_append_left _ (by assumption) | apply List.mem_cons_of_mem | apply List.mem_append_right)) | exact Sees.root (hR _ (by omega)) | exact Sees.own (RowsIn.mem (by repeat (first | exact RowsIn.here | exact RowsIn.last | apply RowsIn.there | apply RowsIn.thereS)) _ (by omega)) | exact Sees.own (WRowsIn.mem (by repeat (first | exact WRowsIn.here | exact WRowsIn.last | apply WRowsIn.there | apply WRowsIn.thereS)) _ (by omega))) rfl) ?_
  refine SW.r rfl (.inl rfl) rfl (by decide) (yr_len rfl Try.underlying22 rfl) ?_
  refine SW.r rfl (.inl rfl) rfl (by decide) (yr_icmp rfl (.inr (.inr (.inl rfl))) rfl rfl) ?_
  refine SW.done ?_
  refine VE.then_wp ?_
  refine V.cond rfl (fun h1 => ?_) (fun h1 => ?_)
  · skip
    replace h1 := ic_lss h1
    have hbn := byte_get hb (show n < bs.length by omega)
    refine V.draw [(0, 0), (1, 0), (2, 0), (3, 0), (4, 0), (5, 0), (6, 0), (7, 0), (8, 0), (9, 0), (10, 0), (11, 0)] mixed_R8 (by kernel_rfl) (by intro j o hj; simp at hj) ?_
    refine SW.r rfl (.inl rfl) rfl (by decide) (yr_move rfl rfl) ?_
    refine SW.r rfl (.inl rfl) rfl (by decide) (yr_nilCheck rfl rfl) ?_
    refine SW.r rfl (.inl rfl) rfl (by decide) (yr_fieldAddr rfl Try.underlying60 rfl rfl sz22_R8 (by decide) rfl) ?_
    refine SW.q rfl (.inl rfl) rfl (by decide) (yq_load rfl fb22_R8 rfl (by first | exact Sees.root (by assumption) | exact Sees.own (by repeat (first | exact List.mem_cons_self | exact List.mem_append_left _ (by assumption) | apply List.mem_cons_of_mem | apply List.mem_append_right)) | exact Sees.root (hR _ (by omega)) | exact Sees.own (RowsIn.mem (by repeat (first | exact RowsIn.here | exact RowsIn.last | apply RowsIn.there | apply RowsIn.thereS)) _ (by omega)) | exact Sees.own (WRowsIn.mem (by repeat (first | exact WRowsIn.here | exact WRowsIn.last | apply WRowsIn.there | apply WRowsIn.thereS)) _ (by omega))) rfl) ?_
    refine SW.r rfl (.inl rfl) rfl (by decide) (yr_move rfl rfl) ?_
    refine SW.r rfl (.inl rfl) rfl (by decide) (yr_nilCheck rfl rfl) ?_
    refine SW.r rfl (.inl rfl) rfl (by decide) (yr_fieldAddr rfl Try.underlying60 rfl rfl sz3_R8 (by decide) rfl) ?_
    refine SW.q rfl (.inl rfl) rfl (by decide) (yq_load rfl fb3_R8 rfl (by first | exact Sees.root (by assumption) | exact Sees.own (by repeat (first | exact List.mem_cons_self | exact List.mem_append_left _ (by assumption) | apply List.mem_cons_of_mem | apply List.mem_append_right)) | exact Sees.root (hR _ (by omega)) | exact Sees.own (RowsIn.mem (by repeat (first | exact RowsIn.here | exact RowsIn.last | apply RowsIn.there | apply RowsIn.thereS)) _ (by omega)) | exact Sees.own (WRowsIn.mem (by repeat (first | exact WRowsIn.here | exact WRowsIn.last | apply WRowsIn.there | apply WRowsIn.thereS)) _ (by omega))) rfl) ?_
    refine SW.q rfl (.inl rfl) rfl (by decide) (yq_idx (k := n) rfl Try.underlying22 sz5_R8 rfl rfl (by first | exact Sees.root (by assumption) | exact Sees.own (by repeat (first | exact List.mem_cons_self | exact List.mem_append_left _ (by assumption) | apply List.mem_cons_of_mem | apply List.mem_append_right)) | exact Sees.root (hR _ (by omega)) | exact Sees.own (RowsIn.mem (by repeat (first | exact RowsIn.here | exact RowsIn.last | apply RowsIn.there | apply RowsIn.thereS)) _ (by omega)) | exact Sees.own (WRowsIn.mem (by repeat (first | exact WRowsIn.here | exact WRowsIn.last | apply WRowsIn.there | apply WRowsIn.thereS)) _ (by omega))) (by first | rfl | omega | (push_cast; rfl) | (push_cast; omega) | exact tmod_nat _ _) (by exact bl_length _) (by omega)) ?_
    refine SW.q rfl (.inl rfl) rfl (by decide) (yq_load (u := .int .u8 (bs.getD n 0)) rfl fb5_R8 rfl (by first | exact Sees.root (by assumption) | exact Sees.own (by repeat (first | exact List.mem_cons_self | exact List.mem_append_left _ (by assumption) | apply List.mem_cons_of_mem | apply List.mem_append_right)) | exact Sees.root (hR _ (by omega)) | exact Sees.own (RowsIn.mem (by repeat (first | exact RowsIn.here | exact RowsIn.last | apply RowsIn.there | apply RowsIn.thereS)) _ (by omega)) | exact Sees.own (WRowsIn.mem (by repeat (first | exact WRowsIn.here | exact WRowsIn.last | apply WRowsIn.there | apply WRowsIn.thereS)) _ (by omega))) (bl_get (by omega))) ?_
    refine SW.r rfl (.inl rfl) rfl (by decide) (yr_intConv (r := bs.getD n 0) rfl Try.underlying5 Try.underlying3 rfl (wrap_in (by omega))) ?_
    refine SW.r rfl (.inl rfl) rfl (by decide) (yr_assign rfl rfl) ?_
    refine SW.done ?_
    refine VE.then_wp ?_
    refine V.seq ?_
    refine V.region ?_
    refine VL.r (.inl rfl) rfl (by decide) (yr_move rfl rfl) ?_
    refine VL.r (.inl rfl) rfl (by decide) (yr_nilCheck rfl rfl) ?_
    refine VL.r (.inl rfl) rfl (by decide) (yr_fieldAddr rfl Try.underlying60 rfl rfl sz3_R8 (by decide) rfl) ?_
    refine VL.q (.inl rfl) rfl (by decide) (yq_load rfl fb3_R8 rfl (by first | exact Sees.root (by assumption) | exact Sees.own (by repeat (first | exact List.mem_cons_self | exact List.mem_append_left _ (by assumption) | apply List.mem_cons_of_mem | apply List.mem_append_right)) | exact Sees.root (hR _ (by omega)) | exact Sees.own (RowsIn.mem (by repeat (first | exact RowsIn.here | exact RowsIn.last | apply RowsIn.there | apply RowsIn.thereS)) _ (by omega)) | exact Sees.own (WRowsIn.mem (by repeat (first | exact WRowsIn.here | exact WRowsIn.last | apply WRowsIn.there | apply WRowsIn.thereS)) _ (by omega))) rfl) ?_
    refine VL.r (.inl rfl) rfl (by decide) (yr_addN (n + 1) rfl rfl rfl (by push_cast; rfl) (by omega)) ?_
    refine VL.r (.inl rfl) rfl (by decide) (yr_nilCheck rfl rfl) ?_
    refine VL.r (.inl rfl) rfl (by decide) (yr_fieldAddr rfl Try.underlying60 rfl rfl sz3_R8 (by decide) rfl) ?_
    refine VL.s (.inl rfl) rfl (yc_store rfl sz3_R8 rfl rfl (by repeat (first | exact UpdF.here | apply UpdF.there | apply UpdF.thereS)) (.inl ⟨rfl, rfl⟩) rfl (by first | exact Nat.le_of_ble_eq_true rfl | simp) (by decide) rfl) ?_
    rintro ⟨⟩
    refine VL.nil ?_
    refine VE.then_wp ?_
    refine V.seq ?_
    refine V.region ?_
    refine VL.r (.inl rfl) rfl (by decide) (yr_move rfl rfl) ?_
    refine VL.r (.inl rfl) rfl (by decide) (yr_move rfl rfl) ?_
    refine VL.r (.inl rfl) rfl (by decide) (yr_nilCheck rfl rfl) ?_
    refine VL.r (.inl rfl) rfl (by decide) (yr_fieldAddr rfl Try.underlying60 rfl rfl sz58_R8 (by decide) rfl) ?_
    refine VL.q (.inl rfl) rfl (by decide) (yq_load rfl fb58_R8 rfl (by first | exact Sees.root (by assumption) | exact Sees.own (by repeat (first | exact List.mem_cons_self | exact List.mem_append_left _ (by assumption) | apply List.mem_cons_of_mem | apply List.mem_append_right)) | exact Sees.root (hR _ (by omega)) | exact Sees.own (RowsIn.mem (by repeat (first | exact RowsIn.here | exact RowsIn.last | apply RowsIn.there | apply RowsIn.thereS)) _ (by omega)) | exact Sees.own (WRowsIn.mem (by repeat (first | exact WRowsIn.here | exact WRowsIn.last | apply WRowsIn.there | apply WRowsIn.thereS)) _ (by omega))) rfl) ?_
    refine VL.r (.inl rfl) rfl (by decide) (yr_int rfl rfl rfl (.inr (.inr ⟨rfl, rfl⟩))) ?_
    refine VL.r (.inl rfl) rfl (by decide) (yr_move rfl rfl) ?_
    refine VL.r (.inl rfl) rfl (by decide) (yr_intConv rfl Try.underlying3 Try.underlying58 rfl rfl) ?_
    refine VL.r (.inl rfl) rfl (by decide) (yr_int rfl rfl rfl (.inl ⟨rfl, rfl⟩)) ?_
    refine VL.r (.inl rfl) rfl (by decide) (yr_int rfl rfl rfl (.inl ⟨rfl, u64_to _⟩)) ?_
    refine VL.r (.inl rfl) rfl (by decide) (yr_nilCheck rfl rfl) ?_
    refine VL.r (.inl rfl) rfl (by decide) (yr_fieldAddr rfl Try.underlying60 rfl rfl sz58_R8 (by decide) rfl) ?_
    refine VL.s (.inl rfl) rfl (yc_store rfl sz58_R8 rfl rfl (by repeat (first | exact UpdF.here | apply UpdF.there | apply UpdF.thereS)) (.inl ⟨rfl, rfl⟩) rfl (by first | exact Nat.le_of_ble_eq_true rfl | simp) (by decide) rfl) ?_
    rintro ⟨⟩
    refine VL.nil ?_
    refine VE.then_wp ?_
    refine V.seq ?_
    refine V.seq ?_
    refine V.draw [(0, 0), (1, 0), (2, 0), (3, 0), (4, 0), (5, 0), (6, 0), (7, 0), (8, 0), (9, 0)] mixed_R8 (by kernel_rfl) (by intro j o hj; simp at hj) ?_
    refine SW.r rfl (.inl rfl) rfl (by decide) (yr_move rfl rfl) ?_
    refine SW.r rfl (.inl rfl) rfl (by decide) (yr_nilCheck rfl rfl) ?_
    refine SW.r rfl (.inl rfl) rfl (by decide) (yr_fieldAddr rfl Try.underlying60 rfl rfl sz3_R8 (by decide) rfl) ?_
    refine SW.q rfl (.inl rfl) rfl (by decide) (yq_load rfl fb3_R8 rfl (by first | exact Sees.root (by assumption) | exact Sees.own (by repeat (first | exact List.mem_cons_self | exact List.mem_append_left _ (by assumption) | apply List.mem_cons_of_mem | apply List.mem_append_right)) | exact Sees.root (hR _ (by omega)) | exact Sees.own (RowsIn.mem (by repeat (first | exact RowsIn.here | exact RowsIn.last | apply RowsIn.there | apply RowsIn.thereS)) _ (by omega)) | exact Sees.own (WRowsIn.mem (by repeat (first | exact WRowsIn.here | exact WRowsIn.last | apply WRowsIn.there | apply WRowsIn.thereS)) _ (by omega))) rfl) ?_
    refine SW.r rfl (.inl rfl) rfl (by decide) (yr_move rfl rfl) ?_
    refine SW.r rfl (.inl rfl) rfl (by decide) (yr_nilCheck rfl rfl) ?_
    refine SW.r rfl (.inl rfl) rfl (by decide) (yr_fieldAddr rfl Try.underlying60 rfl rfl sz22_R8 (by decide) rfl) ?_
    refine SW.q rfl (.inl rfl) rfl (by decide) (yq_load rfl fb22_R8 rfl (by first | exact Sees.root (by assumption) | exact Sees.own (by repeat (first | exact List.mem_cons_self | exact List.mem_append_left _ (by assumption) | apply List.mem_cons_of_mem | apply List.mem_append_right)) | exact Sees.root (hR _ (by omega)) | exact Sees.own (RowsIn.mem (by repeat (first | exact RowsIn.here | exact RowsIn.last | apply RowsIn.there | apply RowsIn.thereS)) _ (by omega)) | exact Sees.own (WRowsIn.mem (by repeat (first | exact WRowsIn.here | exact WRowsIn.last | apply WRowsIn.there | apply WRowsIn.thereS)) _ (by omega))) rfl) ?_
    refine SW.r rfl (.inl rfl) rfl (by decide) (yr_len rfl Try.underlying22 rfl) ?_
    refine SW.r rfl (.inl rfl) rfl (by decide) (yr_icmp rfl (.inr (.inr (.inr (.inl rfl)))) rfl rfl) ?_
    refine SW.done ?_
    refine VE.then_wp ?_
    refine V.cond rfl (fun h2 => ?_) (fun h2 => ?_)
    · skip
      replace h2 := ic_leq h2
      refine V.seq ?_
      refine V.region ?_
      refine VL.r (.inl rfl) rfl (by decide) (yr_move rfl rfl) ?_
      refine VL.r (.inl rfl) rfl (by decide) (yr_assign rfl rfl) ?_
      refine VL.nil ?_
      refine VE.then_wp ?_
      refine V.ret ?_
      refine VE.then_ret ?_
      refine ret1 rfl rfl (fun w1 hw => ?_)
      first
        | exact ⟨⟨((bs.getD n 0).toNat, uw _), by show (bs.getD n 0).toNat < 256; omega, uw_lt _⟩, by show Value.int .i64 (bs.getD n 0) = .int .i64 (((bs.getD n 0).toNat : Nat) : Int); rw [Int.toNat_of_nonneg hbn.1], hw⟩
        | exact ⟨⟨((_ % 256 : Int).toNat, uw _), by show (_ % 256 : Int).toNat < 256; omega, uw_lt _⟩, rfl, hw⟩
    · skip
      replace h2 := ic_leq' h2
      refine V.skip ?_
      refine VE.then_wp ?_
      refine V.seq ?_
      refine V.region ?_
      refine VL.r (.inl rfl) rfl (by decide) (yr_move rfl rfl) ?_
      refine VL.r (.inl rfl) rfl (by decide) (yr_nilCheck rfl rfl) ?_
      refine VL.r (.inl rfl) rfl (by decide) (yr_fieldAddr rfl Try.underlying60 rfl rfl sz58_R8 (by decide) rfl) ?_
      refine VL.q (.inl rfl) rfl (by decide) (yq_load rfl fb58_R8 rfl (by first | exact Sees.root (by assumption) | exact Sees.own (by repeat (first | exact List.mem_cons_self | exact List.mem_append_left _ (by assumption) | apply List.mem_cons_of_mem | apply List.mem_append_right)) | exact Sees.root (hR _ (by omega)) | exact Sees.own (RowsIn.mem (by repeat (first | exact RowsIn.here | exact RowsIn.last | apply RowsIn.there | apply RowsIn.thereS)) _ (by omega)) | exact Sees.own (WRowsIn.mem (by repeat (first | exact WRowsIn.here | exact WRowsIn.last | apply WRowsIn.there | apply WRowsIn.thereS)) _ (by omega))) rfl) ?_
      refine VL.r (.inl rfl) rfl (by decide) (yr_shr (b := 40) rfl rfl rfl rfl) ?_
      refine VL.r (.inl rfl) rfl (by decide) (yr_bits rfl rfl rfl (.inl ⟨rfl, and255u _⟩)) ?_
      refine VL.r (.inl rfl) rfl (by decide) (yr_intConv rfl Try.underlying58 Try.underlying2 rfl (wrap_in (by omega))) ?_
      refine VL.r (.inl rfl) rfl (by decide) (yr_assign rfl rfl) ?_
      refine VL.nil ?_
      refine VE.then_wp ?_
      refine V.ret ?_
      refine ret1 rfl rfl (fun w1 hw => ?_)
      first
        | exact ⟨⟨((bs.getD n 0).toNat, uw _), by show (bs.getD n 0).toNat < 256; omega, uw_lt _⟩, by show Value.int .i64 (bs.getD n 0) = .int .i64 (((bs.getD n 0).toNat : Nat) : Int); rw [Int.toNat_of_nonneg hbn.1], hw⟩
        | exact ⟨⟨((_ % 256 : Int).toNat, uw _), by show (_ % 256 : Int).toNat < 256; omega, uw_lt _⟩, rfl, hw⟩
  · skip
    replace h1 := ic_lss' h1
    refine V.skip ?_
    refine VE.then_wp ?_
    refine V.seq ?_
    refine V.region ?_
    refine VL.r (.inl rfl) rfl (by decide) (yr_move rfl rfl) ?_
    refine VL.r (.inl rfl) rfl (by decide) (yr_nilCheck rfl rfl) ?_
    refine VL.r (.inl rfl) rfl (by decide) (yr_fieldAddr rfl Try.underlying60 rfl rfl sz3_R8 (by decide) rfl) ?_
    refine VL.q (.inl rfl) rfl (by decide) (yq_load rfl fb3_R8 rfl (by first | exact Sees.root (by assumption) | exact Sees.own (by repeat (first | exact List.mem_cons_self | exact List.mem_append_left _ (by assumption) | apply List.mem_cons_of_mem | apply List.mem_append_right)) | exact Sees.root (hR _ (by omega)) | exact Sees.own (RowsIn.mem (by repeat (first | exact RowsIn.here | exact RowsIn.last | apply RowsIn.there | apply RowsIn.thereS)) _ (by omega)) | exact Sees.own (WRowsIn.mem (by repeat (first | exact WRowsIn.here | exact WRowsIn.last | apply WRowsIn.there | apply WRowsIn.thereS)) _ (by omega))) rfl) ?_
    refine VL.r (.inl rfl) rfl (by decide) (yr_addN (n + 1) rfl rfl rfl (by push_cast; rfl) (by omega)) ?_
    refine VL.r (.inl rfl) rfl (by decide) (yr_nilCheck rfl rfl) ?_
    refine VL.r (.inl rfl) rfl (by decide) (yr_fieldAddr rfl Try.underlying60 rfl rfl sz3_R8 (by decide) rfl) ?_
    refine VL.s (.inl rfl) rfl (yc_store rfl sz3_R8 rfl rfl (by repeat (first | exact UpdF.here | apply UpdF.there | apply UpdF.thereS)) (.inl ⟨rfl, rfl⟩) rfl (by first | exact Nat.le_of_ble_eq_true rfl | simp) (by decide) rfl) ?_
    rintro ⟨⟩
    refine VL.nil ?_
    refine VE.then_wp ?_
    refine V.seq ?_
    refine V.region ?_
    refine VL.r (.inl rfl) rfl (by decide) (yr_move rfl rfl) ?_
    refine VL.r (.inl rfl) rfl (by decide) (yr_move rfl rfl) ?_
    refine VL.r (.inl rfl) rfl (by decide) (yr_nilCheck rfl rfl) ?_
    refine VL.r (.inl rfl) rfl (by decide) (yr_fieldAddr rfl Try.underlying60 rfl rfl sz58_R8 (by decide) rfl) ?_
    refine VL.q (.inl rfl) rfl (by decide) (yq_load rfl fb58_R8 rfl (by first | exact Sees.root (by assumption) | exact Sees.own (by repeat (first | exact List.mem_cons_self | exact List.mem_append_left _ (by assumption) | apply List.mem_cons_of_mem | apply List.mem_append_right)) | exact Sees.root (hR _ (by omega)) | exact Sees.own (RowsIn.mem (by repeat (first | exact RowsIn.here | exact RowsIn.last | apply RowsIn.there | apply RowsIn.thereS)) _ (by omega)) | exact Sees.own (WRowsIn.mem (by repeat (first | exact WRowsIn.here | exact WRowsIn.last | apply WRowsIn.there | apply WRowsIn.thereS)) _ (by omega))) rfl) ?_
    refine VL.r (.inl rfl) rfl (by decide) (yr_int rfl rfl rfl (.inr (.inr ⟨rfl, rfl⟩))) ?_
    refine VL.r (.inl rfl) rfl (by decide) (yr_move rfl rfl) ?_
    refine VL.r (.inl rfl) rfl (by decide) (yr_intConv rfl Try.underlying3 Try.underlying58 rfl rfl) ?_
    refine VL.r (.inl rfl) rfl (by decide) (yr_int rfl rfl rfl (.inl ⟨rfl, rfl⟩)) ?_
    refine VL.r (.inl rfl) rfl (by decide) (yr_int rfl rfl rfl (.inl ⟨rfl, u64_to _⟩)) ?_
    refine VL.r (.inl rfl) rfl (by decide) (yr_nilCheck rfl rfl) ?_
    refine VL.r (.inl rfl) rfl (by decide) (yr_fieldAddr rfl Try.underlying60 rfl rfl sz58_R8 (by decide) rfl) ?_
    refine VL.s (.inl rfl) rfl (yc_store rfl sz58_R8 rfl rfl (by repeat (first | exact UpdF.here | apply UpdF.there | apply UpdF.thereS)) (.inl ⟨rfl, rfl⟩) rfl (by first | exact Nat.le_of_ble_eq_true rfl | simp) (by decide) rfl) ?_
    rintro ⟨⟩
    refine VL.nil ?_
    refine VE.then_wp ?_
    refine V.seq ?_
    refine V.seq ?_
    refine V.draw [(0, 0), (1, 0), (2, 0), (3, 0), (4, 0), (5, 0), (6, 0), (7, 0), (8, 0), (9, 0)] mixed_R8 (by kernel_rfl) (by intro j o hj; simp at hj) ?_
    refine SW.r rfl (.inl rfl) rfl (by decide) (yr_move rfl rfl) ?_
    refine SW.r rfl (.inl rfl) rfl (by decide) (yr_nilCheck rfl rfl) ?_
    refine SW.r rfl (.inl rfl) rfl (by decide) (yr_fieldAddr rfl Try.underlying60 rfl rfl sz3_R8 (by decide) rfl) ?_
    refine SW.q rfl (.inl rfl) rfl (by decide) (yq_load rfl fb3_R8 rfl (by first | exact Sees.root (by assumption) | exact Sees.own (by repeat (first | exact List.mem_cons_self | exact List.mem_append_left _ (by assumption) | apply List.mem_cons_of_mem | apply List.mem_append_right)) | exact Sees.root (hR _ (by omega)) | exact Sees.own (RowsIn.mem (by repeat (first | exact RowsIn.here | exact RowsIn.last | apply RowsIn.there | apply RowsIn.thereS)) _ (by omega)) | exact Sees.own (WRowsIn.mem (by repeat (first | exact WRowsIn.here | exact WRowsIn.last | apply WRowsIn.there | apply WRowsIn.thereS)) _ (by omega))) rfl) ?_
    refine SW.r rfl (.inl rfl) rfl (by decide) (yr_move rfl rfl) ?_
    refine SW.r rfl (.inl rfl) rfl (by decide) (yr_nilCheck rfl rfl) ?_
    refine SW.r rfl (.inl rfl) rfl (by decide) (yr_fieldAddr rfl Try.underlying60 rfl rfl sz22_R8 (by decide) rfl) ?_
    refine SW.q rfl (.inl rfl) rfl (by decide) (yq_load rfl fb22_R8 rfl (by first | exact Sees.root (by assumption) | exact Sees.own (by repeat (first | exact List.mem_cons_self | exact List.mem_append_left _ (by assumption) | apply List.mem_cons_of_mem | apply List.mem_append_right)) | exact Sees.root (hR _ (by omega)) | exact Sees.own (RowsIn.mem (by repeat (first | exact RowsIn.here | exact RowsIn.last | apply RowsIn.there | apply RowsIn.thereS)) _ (by omega)) | exact Sees.own (WRowsIn.mem (by repeat (first | exact WRowsIn.here | exact WRowsIn.last | apply WRowsIn.there | apply WRowsIn.thereS)) _ (by omega))) rfl) ?_
    refine SW.r rfl (.inl rfl) rfl (by decide) (yr_len rfl Try.underlying22 rfl) ?_
    refine SW.r rfl (.inl rfl) rfl (by decide) (yr_icmp rfl (.inr (.inr (.inr (.inl rfl)))) rfl rfl) ?_
    refine SW.done ?_
    refine VE.then_wp ?_
    refine V.cond rfl (fun h3 => ?_) (fun h3 => ?_)
    · skip
      replace h3 := ic_leq h3
      exfalso; omega
    · skip
      replace h3 := ic_leq' h3
      refine V.skip ?_
      refine VE.then_wp ?_
      refine V.seq ?_
      refine V.region ?_
      refine VL.r (.inl rfl) rfl (by decide) (yr_move rfl rfl) ?_
      refine VL.r (.inl rfl) rfl (by decide) (yr_nilCheck rfl rfl) ?_
      refine VL.r (.inl rfl) rfl (by decide) (yr_fieldAddr rfl Try.underlying60 rfl rfl sz58_R8 (by decide) rfl) ?_
      refine VL.q (.inl rfl) rfl (by decide) (yq_load rfl fb58_R8 rfl (by first | exact Sees.root (by assumption) | exact Sees.own (by repeat (first | exact List.mem_cons_self | exact List.mem_append_left _ (by assumption) | apply List.mem_cons_of_mem | apply List.mem_append_right)) | exact Sees.root (hR _ (by omega)) | exact Sees.own (RowsIn.mem (by repeat (first | exact RowsIn.here | exact RowsIn.last | apply RowsIn.there | apply RowsIn.thereS)) _ (by omega)) | exact Sees.own (WRowsIn.mem (by repeat (first | exact WRowsIn.here | exact WRowsIn.last | apply WRowsIn.there | apply WRowsIn.thereS)) _ (by omega))) rfl) ?_
      refine VL.r (.inl rfl) rfl (by decide) (yr_shr (b := 40) rfl rfl rfl rfl) ?_
      refine VL.r (.inl rfl) rfl (by decide) (yr_bits rfl rfl rfl (.inl ⟨rfl, and255u _⟩)) ?_
      refine VL.r (.inl rfl) rfl (by decide) (yr_intConv rfl Try.underlying58 Try.underlying2 rfl (wrap_in (by omega))) ?_
      refine VL.r (.inl rfl) rfl (by decide) (yr_assign rfl rfl) ?_
      refine VL.nil ?_
      refine VE.then_wp ?_
      refine V.ret ?_
      refine ret1 rfl rfl (fun w1 hw => ?_)
      first
        | exact ⟨⟨((bs.getD n 0).toNat, uw _), by show (bs.getD n 0).toNat < 256; omega, uw_lt _⟩, by show Value.int .i64 (bs.getD n 0) = .int .i64 (((bs.getD n 0).toNat : Nat) : Int); rw [Int.toNat_of_nonneg hbn.1], hw⟩
        | exact ⟨⟨((_ % 256 : Int).toNat, uw _), by show (_ % 256 : Int).toNat < 256; omega, uw_lt _⟩, rfl, hw⟩

theorem c_pick {w0 : World} {a : Option Addr} {c q n sd : Nat} {bs : List Int} {m : Nat} (hA : Cl w0 a (bl bs)) (hb : Bytes bs) (hl : bs.length ≤ 2000000) (hn : n ≤ 100000) (hsd : sd < 18446744073709551616) (hm2 : 2 ≤ m) (hm3 : m ≤ 200) : Mut Try.prog 18 [.pointer (some (adr (some ⟨q, 0, none⟩) 0)), .int .i64 (m : Int)] w0 [⟨some ⟨q, 0, none⟩, [.slice a bs.length c, .int .i64 ((n : Nat) : Int), .int .u64 ((sd : Nat) : Int)], 3, 60⟩] (fun x : {x : Nat × Nat // x.1 < m ∧ x.2 < 18446744073709551616} => .int .i64 ((x.1.1 : Nat) : Int)) (fun x => [⟨some ⟨q, 0, none⟩, [.slice a bs.length c, .int .i64 ((n + 1 : Nat) : Int), .int .u64 ((x.1.2 : Nat) : Int)], 3, 60⟩]) := by
  refine Mut.enter Try.func18 rfl Try.ntmps18 (Nat.le_of_ble_eq_true rfl) ?_
  intro F
  refine V.seq ?_
  refine V.region ?_
  refine VL.r (.inl rfl) rfl (by decide) (yr_assign (u := .int .i64 0) rfl rfl) ?_
  refine VL.nil ?_
  refine VE.then_wp ?_
  refine V.seq ?_
  refine V.seq ?_
  refine V.region ?_
  refine VL.r (.inl rfl) rfl (by decide) (yr_move rfl rfl) ?_
  refine VL.r (.inl rfl) rfl (by decide) (yr_icmp rfl (.inr (.inr (.inr (.inl rfl)))) rfl rfl) ?_
  refine VL.nil ?_
  refine VE.then_wp ?_
  refine V.cond rfl (fun h1 => ?_) (fun h1 => ?_)
  · skip
    replace h1 := ic_leq h1
    exfalso; omega
  · skip
    replace h1 := ic_leq' h1
    refine V.skip ?_
    refine VE.then_wp ?_
    refine V.seq ?_
    refine V.region ?_
    refine VL.r (.inl rfl) rfl (by decide) (yr_move rfl rfl) ?_
    refine VL.c (.inl rfl) rfl (by decide) (yc_callf rfl known31_R8 (.cons rfl .nil) (by apply Pick.one; repeat (first | exact Rem.here | apply Rem.there | apply Rem.thereS)) (c_next hA hb (by omega) (by omega) (by omega))) ?_
    rintro ⟨⟨x9, s9⟩, hx9, hs9⟩
    dsimp only at hx9 hs9
    refine VL.r (.inl rfl) rfl (by decide) (yr_assign rfl rfl) ?_
    refine VL.nil ?_
    refine VE.then_wp ?_
    refine V.seq ?_
    refine V.seq ?_
    refine V.region ?_
    refine VL.r (.inl rfl) rfl (by decide) (yr_move rfl rfl) ?_
    refine VL.r (.inl rfl) rfl (by decide) (yr_icmp rfl (.inr (.inr (.inr (.inr (.inl rfl))))) rfl rfl) ?_
    refine VL.nil ?_
    refine VE.then_wp ?_
    refine V.cond rfl (fun h2 => ?_) (fun h2 => ?_)
    · skip
      replace h2 := ic_gtr h2
      exfalso; omega
    · skip
      replace h2 := ic_gtr' h2
      refine V.skip ?_
      refine VE.then_wp ?_
      refine V.seq ?_
      refine V.region ?_
      refine VL.r (.inl rfl) rfl (by decide) (yr_move rfl rfl) ?_
      refine VL.r (.inl rfl) rfl (by decide) (yr_move rfl rfl) ?_
      refine VL.r (.inl rfl) rfl (by decide) (yr_remN x9 m rfl rfl rfl rfl rfl (by omega)) ?_
      refine VL.r (.inl rfl) rfl (by decide) (yr_assign rfl rfl) ?_
      refine VL.nil ?_
      refine VE.then_wp ?_
      refine V.ret ?_
      refine ret1 rfl rfl (fun w1 hw => ?_)
      exact ⟨⟨(x9 % m, s9), Nat.mod_lt _ (by omega), hs9⟩, rfl, hw.perm' (by rw [List.append_nil]; exact List.perm_append_comm)⟩

theorem c_from {w : World} {a : Option Addr} {c : Nat} {bs : List Int} : New Try.prog 16 [.slice a bs.length c] w (fun p : Nat => .pointer (some (adr (some ⟨p, 0, none⟩) 0))) (fun p => [⟨some ⟨p, 0, none⟩, [.slice a bs.length c, .int .i64 ((0 : Nat) : Int), .int .u64 ((0 : Nat) : Int)], 3, 60⟩]) := by
  refine New.enter Try.func16 rfl Try.ntmps16 (Nat.le_of_ble_eq_true rfl) ?_
  refine V.seq ?_
  refine V.region ?_
  refine VL.r (.inl rfl) rfl (by decide) (yr_assign (u := .pointer none) rfl rfl) ?_
  refine VL.nil ?_
  refine VE.then_wp ?_
  refine V.seq ?_
  refine V.region ?_
  refine VL.r (.inl rfl) rfl (by decide) (yr_move rfl rfl) ?_
  refine VL.r (.inl rfl) rfl (by decide) (yr_build rfl lay60_R8 rfl (.cons rfl .nil) (by first | (simp; done) | (simp [vv]; done) | (simp [cn, cn1, cn0]; done)) rfl) ?_
  refine VL.new1 (.inl rfl) rfl (by decide) (yn_box rfl rfl (.inr ⟨rfl, rfl⟩)) ?_
  intro b5
  refine VL.r (.inl rfl) rfl (by decide) (yr_assign rfl rfl) ?_
  refine VL.nil ?_
  refine VE.then_wp ?_
  refine V.ret ?_
  refine ret1 rfl rfl (fun w1 hw => ?_)
  exact ⟨b5, rfl, hw.out1⟩

end Go.Proofs.Ytalimcjmaoapkaa


namespace Go.Proofs.Ytalimcjmaoapkaa
def dotK (xs ys : List Nat) : Nat → Nat
  | 0 => 0
  | k + 1 => fop .add .f32 (dotK xs ys k) (fop .mul .f32 (xs.getD k 0) (ys.getD k 0))
def missAt (xss : List (List Nat)) (ws x : List Nat) (i : Nat) : Nat := fop .sub .f32 (ws.getD i 0) (dotK (xss.getD i []) x x.length)
def missL (xss : List (List Nat)) (ws x : List Nat) (k : Nat) : List Nat := (List.range k).map (missAt xss ws x)
theorem missL_length (xss : List (List Nat)) (ws x : List Nat) (k : Nat) : (missL xss ws x k).length = k := by simp [missL]
theorem missL_succ (xss : List (List Nat)) (ws x : List Nat) (k : Nat) : missL xss ws x k ++ [missAt xss ws x k] = missL xss ws x (k + 1) := by simp [missL, List.range_succ]
theorem missL_get (xss : List (List Nat)) (ws x : List Nat) {k m : Nat} (h : k < m) : (missL xss ws x m).getD k 0 = missAt xss ws x k := getD_range m _ h
def sqK (xss : List (List Nat)) (ws gs x : List Nat) : Nat → Nat
  | 0 => 0
  | k + 1 => fop .add .f32 (sqK xss ws gs x k) (fop .mul .f32 (fop .mul .f32 (gs.getD k 0) (missAt xss ws x k)) (missAt xss ws x k))
noncomputable def fitsD (xss : List (List Nat)) (ws gs x : List Nat) : Bool := validD xss ws gs && decide (x.length = (xss.getD 0 []).length)
noncomputable def squareD (xss : List (List Nat)) (ws gs x : List Nat) : Nat := if fitsD xss ws gs x then sqK xss ws gs x xss.length else 0
theorem fits_is {xss : List (List Nat)} {ws gs x : List Nat} (h : fitsD xss ws gs x = true) : ValidP xss ws gs ∧ x.length = (xss.getD 0 []).length ∧ ∀ i, i < xss.length → (xss.getD i []).length = x.length := by
  unfold fitsD at h
  simp only [Bool.and_eq_true, decide_eq_true_eq] at h
  have hv := valid_is h.1
  exact ⟨hv, h.2, fun i hi => by rw [h.2]; exact (hv.2.2.2.2.2.1 i hi).1⟩
theorem squareD_yes {xss : List (List Nat)} {ws gs x : List Nat} (h : fitsD xss ws gs x = true) : squareD xss ws gs x = sqK xss ws gs x xss.length := by simp [squareD, h]
theorem squareD_no {xss : List (List Nat)} {ws gs x : List Nat} (h : fitsD xss ws gs x = false) : squareD xss ws gs x = 0 := by simp [squareD, h]
end Go.Proofs.Ytalimcjmaoapkaa


namespace Go.Proofs.Ytalimcjmaoapkaa
noncomputable def missesD (xss : List (List Nat)) (ws gs x : List Nat) : List Nat := if fitsD xss ws gs x then missL xss ws x xss.length else []
theorem missesD_yes {xss : List (List Nat)} {ws gs x : List Nat} (h : fitsD xss ws gs x = true) : missesD xss ws gs x = missL xss ws x xss.length := by simp [missesD, h]
theorem missesD_no {xss : List (List Nat)} {ws gs x : List Nat} (h : fitsD xss ws gs x = false) : missesD xss ws gs x = [] := by simp [missesD, h]
end Go.Proofs.Ytalimcjmaoapkaa


namespace Go.Proofs.Ytalimcjmaoapkaa
open Go.RowKit

end Go.Proofs.Ytalimcjmaoapkaa


namespace Go.Proofs.Ytalimcjmaoapkaa
open Go.RowKit

theorem fits_congr {xss : List (List Nat)} {ws gs x y : List Nat} (h : y.length = x.length) : fitsD xss ws gs y = fitsD xss ws gs x := by unfold fitsD; rw [h]
theorem Hp.nil {w0 w : World} {O : List Ent} (h : Hp w0 O w) (t : TypeId) : Hp w0 (⟨none, [], 0, t⟩ :: O) w :=
  h.new (Below.refl _ _) (.inl ⟨rfl, rfl⟩)

/-! ### limits -/
def limS (xss : List (List Nat)) (gs : List Nat) (j : Nat) : Nat → Nat
  | 0 => 0
  | k + 1 => fop .add .f32 (limS xss gs j k) (fop .mul .f32 (fop .mul .f32 (gs.getD k 0) ((xss.getD k []).getD j 0)) ((xss.getD k []).getD j 0))
def limT (xss : List (List Nat)) (ws gs now : List Nat) (j : Nat) : Nat → Nat
  | 0 => 0
  | k + 1 => fop .add .f32 (limT xss ws gs now j k) (fop .mul .f32 (fop .mul .f32 (gs.getD k 0) ((xss.getD k []).getD j 0)) (fop .add .f32 (missAt xss ws now k) (fop .mul .f32 ((xss.getD k []).getD j 0) (now.getD j 0))))
def limY (y most : Nat) : Nat :=
  if fcmp .gtr .f32 y most then (if fcmp .lss .f32 most (fneg .f32 most) then fneg .f32 most else most)
  else (if fcmp .lss .f32 y (fneg .f32 most) then fneg .f32 most else y)
theorem limY_1 {y most : Nat} (h : fcmp .gtr .f32 y most = true) (h2 : fcmp .lss .f32 most (fneg .f32 most) = true) : limY y most = fneg .f32 most := by unfold limY; rw [h, h2]; rfl
theorem limY_2 {y most : Nat} (h : fcmp .gtr .f32 y most = true) (h2 : fcmp .lss .f32 most (fneg .f32 most) = false) : limY y most = most := by unfold limY; rw [h, h2]; rfl
theorem limY_3 {y most : Nat} (h : fcmp .gtr .f32 y most = false) (h2 : fcmp .lss .f32 y (fneg .f32 most) = true) : limY y most = fneg .f32 most := by unfold limY; rw [h, h2]; rfl
theorem limY_4 {y most : Nat} (h : fcmp .gtr .f32 y most = false) (h2 : fcmp .lss .f32 y (fneg .f32 most) = false) : limY y most = y := by unfold limY; rw [h, h2]; rfl
def limN (xss : List (List Nat)) (ws gs : List Nat) (most : Nat) (now : List Nat) (j : Nat) : List Nat :=
  if fcmp .gtr .f32 (limS xss gs j xss.length) 0 then now.set j (limY (fop .quo .f32 (limT xss ws gs now j xss.length) (limS xss gs j xss.length)) most) else now
def limJ (xss : List (List Nat)) (ws gs : List Nat) (most : Nat) (now : List Nat) : Nat → List Nat
  | 0 => now
  | j + 1 => limN xss ws gs most (limJ xss ws gs most now j) j
def limR (xss : List (List Nat)) (ws gs : List Nat) (most : Nat) (x : List Nat) : Nat → List Nat
  | 0 => x
  | k + 1 => limJ xss ws gs most (limR xss ws gs most x k) x.length
theorem limN_length (xss : List (List Nat)) (ws gs : List Nat) (most : Nat) (now : List Nat) (j : Nat) : (limN xss ws gs most now j).length = now.length := by
  unfold limN; split <;> simp
theorem limJ_length (xss : List (List Nat)) (ws gs : List Nat) (most : Nat) (now : List Nat) : ∀ j, (limJ xss ws gs most now j).length = now.length
  | 0 => rfl
  | j + 1 => by rw [limJ, limN_length, limJ_length xss ws gs most now j]
theorem limR_length (xss : List (List Nat)) (ws gs : List Nat) (most : Nat) (x : List Nat) : ∀ k, (limR xss ws gs most x k).length = x.length
  | 0 => rfl
  | k + 1 => by rw [limR, limJ_length, limR_length xss ws gs most x k]
theorem limN_no {xss : List (List Nat)} {ws gs : List Nat} {most : Nat} {now : List Nat} {j : Nat} (h : fcmp .gtr .f32 (limS xss gs j xss.length) 0 = false) : limN xss ws gs most now j = now := by
  unfold limN; rw [h]; rfl
theorem limN_yes {xss : List (List Nat)} {ws gs : List Nat} {most : Nat} {now : List Nat} {j : Nat} (h : fcmp .gtr .f32 (limS xss gs j xss.length) 0 = true) : limN xss ws gs most now j = now.set j (limY (fop .quo .f32 (limT xss ws gs now j xss.length) (limS xss gs j xss.length)) most) := by
  unfold limN; rw [h]; rfl
noncomputable def limOk (xss : List (List Nat)) (ws gs x : List Nat) (most : Nat) (rn : Int) : Bool := fitsD xss ws gs x && least most && decide (0 ≤ rn ∧ rn ≤ 20)
noncomputable def limD (xss : List (List Nat)) (ws gs x : List Nat) (most : Nat) (rn : Int) : List Nat := if limOk xss ws gs x most rn then limR xss ws gs most x rn.toNat else []
section
variable {xss : List (List Nat)} {ws gs x : List Nat} {most unit : Nat} {rn : Int}
theorem limOk_yes (h : fitsD xss ws gs x = true) (h2 : least most = true) (h3 : 0 ≤ rn ∧ rn ≤ 20) : limOk xss ws gs x most rn = true := by unfold limOk; rw [h, h2, decide_eq_true h3]; rfl
theorem limOk_yes2 (h : fitsD xss ws gs x = true) (h2 : fin most = true) (h4 : fcmp .geq .f32 most 0 = true) (h3 : 0 ≤ rn ∧ rn ≤ 20) : limOk xss ws gs x most rn = true := limOk_yes h (by unfold least; rw [h2, h4]; rfl) h3
theorem limOk_no1 (h : fitsD xss ws gs x = false) : limOk xss ws gs x most rn = false := by unfold limOk; rw [h]; rfl
theorem limOk_no2 (h : least most = false) : limOk xss ws gs x most rn = false := by unfold limOk; rw [h, Bool.and_false]; rfl
theorem limOk_no3 (h : decide (0 ≤ rn ∧ rn ≤ 20) = false) : limOk xss ws gs x most rn = false := by unfold limOk; rw [h, Bool.and_false]
theorem limOk_no4 (h : fin most = false) : limOk xss ws gs x most rn = false := limOk_no2 (by unfold least; rw [h]; rfl)
theorem limOk_no5 (h : fcmp .geq .f32 most 0 = false) : limOk xss ws gs x most rn = false := limOk_no2 (by unfold least; rw [h, Bool.and_false])
end
theorem limD_yes {xss : List (List Nat)} {ws gs x : List Nat} {most : Nat} {rn : Int} (h : limOk xss ws gs x most rn = true) : limD xss ws gs x most rn = limR xss ws gs most x rn.toNat := by simp [limD, h]
theorem limD_no {xss : List (List Nat)} {ws gs x : List Nat} {most : Nat} {rn : Int} (h : limOk xss ws gs x most rn = false) : limD xss ws gs x most rn = [] := by simp [limD, h]
/-! ### steps that improve -/
def impN (sq : List Nat → Nat) (unit : Nat) (s : List Nat × Nat) (j : Nat) : List Nat × Nat :=
  if fcmp .lss .f32 (sq (s.1.set j (fop .add .f32 (s.1.getD j 0) unit))) (sq s.1) then (s.1.set j (fop .add .f32 (s.1.getD j 0) unit), s.2 + 1)
  else if fcmp .lss .f32 (sq (s.1.set j (fop .sub .f32 (s.1.getD j 0) unit))) (sq s.1) then (s.1.set j (fop .sub .f32 (s.1.getD j 0) unit), s.2 + 1) else s
def impJ (sq : List Nat → Nat) (unit : Nat) (s : List Nat × Nat) : Nat → List Nat × Nat
  | 0 => s
  | j + 1 => impN sq unit (impJ sq unit s j) j
def impF (sq : List Nat → Nat) (unit : Nat) (s : List Nat × Nat) : Nat → List Nat × Nat
  | 0 => s
  | r + 1 => if (impJ sq unit s s.1.length).2 = s.2 then impJ sq unit s s.1.length else impF sq unit (impJ sq unit s s.1.length) r
theorem impN_up {sq : List Nat → Nat} {unit : Nat} {s : List Nat × Nat} {j : Nat} (h : fcmp .lss .f32 (sq (s.1.set j (fop .add .f32 (s.1.getD j 0) unit))) (sq s.1) = true) : impN sq unit s j = (s.1.set j (fop .add .f32 (s.1.getD j 0) unit), s.2 + 1) := by
  unfold impN; rw [h]; rfl
theorem impN_down {sq : List Nat → Nat} {unit : Nat} {s : List Nat × Nat} {j : Nat} (h : fcmp .lss .f32 (sq (s.1.set j (fop .add .f32 (s.1.getD j 0) unit))) (sq s.1) = false) (h2 : fcmp .lss .f32 (sq (s.1.set j (fop .sub .f32 (s.1.getD j 0) unit))) (sq s.1) = true) : impN sq unit s j = (s.1.set j (fop .sub .f32 (s.1.getD j 0) unit), s.2 + 1) := by
  unfold impN; rw [h, h2]; rfl
theorem impN_no {sq : List Nat → Nat} {unit : Nat} {s : List Nat × Nat} {j : Nat} (h : fcmp .lss .f32 (sq (s.1.set j (fop .add .f32 (s.1.getD j 0) unit))) (sq s.1) = false) (h2 : fcmp .lss .f32 (sq (s.1.set j (fop .sub .f32 (s.1.getD j 0) unit))) (sq s.1) = false) : impN sq unit s j = s := by
  unfold impN; rw [h, h2]; rfl
theorem impN_facts (sq : List Nat → Nat) (unit : Nat) (s : List Nat × Nat) (j : Nat) : (impN sq unit s j).1.length = s.1.length ∧ (∀ i, i ≠ j → (impN sq unit s j).1.getD i 0 = s.1.getD i 0) ∧ s.2 ≤ (impN sq unit s j).2 ∧ (impN sq unit s j).2 ≤ s.2 + 1 := by
  have key : ∀ (v i : Nat), i ≠ j → (s.1.set j v).getD i 0 = s.1.getD i 0 := fun v i h => by
    simp only [List.getD]
    rw [List.getElem?_set_ne (Ne.symm h)]
  unfold impN
  split
  · exact ⟨by simp, fun i h => key _ i h, by simp, by simp⟩
  · split
    · exact ⟨by simp, fun i h => key _ i h, by simp, by simp⟩
    · exact ⟨rfl, fun _ _ => rfl, Nat.le_refl _, Nat.le_succ _⟩
theorem impJ_facts (sq : List Nat → Nat) (unit : Nat) (s : List Nat × Nat) : ∀ j, (impJ sq unit s j).1.length = s.1.length ∧ (∀ i, j ≤ i → (impJ sq unit s j).1.getD i 0 = s.1.getD i 0) ∧ s.2 ≤ (impJ sq unit s j).2 ∧ (impJ sq unit s j).2 ≤ s.2 + j
  | 0 => ⟨rfl, fun _ _ => rfl, Nat.le_refl _, Nat.le_refl _⟩
  | j + 1 => by
    obtain ⟨h1, h2, h3, h4⟩ := impJ_facts sq unit s j
    obtain ⟨g1, g2, g3, g4⟩ := impN_facts sq unit (impJ sq unit s j) j
    rw [impJ]
    exact ⟨g1.trans h1, fun i hi => (g2 i (by omega)).trans (h2 i (by omega)), by omega, by omega⟩
theorem impF_stop {sq : List Nat → Nat} {unit : Nat} {s z : List Nat × Nat} {R k : Nat} (hk : k < R) (h : impF sq unit s (R - k) = z) (he : (impJ sq unit s s.1.length).2 = s.2) : impJ sq unit s s.1.length = z := by
  obtain ⟨r, hr⟩ : ∃ r, R - k = r + 1 := ⟨R - k - 1, by omega⟩
  rw [hr, impF, if_pos he] at h
  exact h
theorem impF_go {sq : List Nat → Nat} {unit : Nat} {s z : List Nat × Nat} {R k : Nat} (hk : k < R) (h : impF sq unit s (R - k) = z) (he : ¬ (impJ sq unit s s.1.length).2 = s.2) : impF sq unit (impJ sq unit s s.1.length) (R - (k + 1)) = z := by
  obtain ⟨r, hr⟩ : ∃ r, R - k = r + 1 := ⟨R - k - 1, by omega⟩
  rw [hr, impF, if_neg he] at h
  rw [show R - (k + 1) = r by omega]
  exact h
noncomputable def impOk (xss : List (List Nat)) (ws gs x : List Nat) (unit : Nat) (rn : Int) : Bool := fitsD xss ws gs x && above unit && decide (0 ≤ rn ∧ rn ≤ 20)
noncomputable def impD (xss : List (List Nat)) (ws gs x : List Nat) (unit : Nat) (rn : Int) : List Nat × Nat := if impOk xss ws gs x unit rn then impF (fun y => sqK xss ws gs y xss.length) unit (x, 0) rn.toNat else ([], 0)
section
variable {xss : List (List Nat)} {ws gs x : List Nat} {most unit : Nat} {rn : Int}
theorem impOk_yes (h : fitsD xss ws gs x = true) (h2 : above unit = true) (h3 : 0 ≤ rn ∧ rn ≤ 20) : impOk xss ws gs x unit rn = true := by unfold impOk; rw [h, h2, decide_eq_true h3]; rfl
theorem impOk_no1 (h : fitsD xss ws gs x = false) : impOk xss ws gs x unit rn = false := by unfold impOk; rw [h]; rfl
theorem impOk_no2 (h : above unit = false) : impOk xss ws gs x unit rn = false := by unfold impOk; rw [h, Bool.and_false]; rfl
theorem impOk_no3 (h : decide (0 ≤ rn ∧ rn ≤ 20) = false) : impOk xss ws gs x unit rn = false := by unfold impOk; rw [h, Bool.and_false]
end
theorem impD_yes {xss : List (List Nat)} {ws gs x : List Nat} {unit : Nat} {rn : Int} (h : impOk xss ws gs x unit rn = true) : impD xss ws gs x unit rn = impF (fun y => sqK xss ws gs y xss.length) unit (x, 0) rn.toNat := by simp [impD, h]
theorem impD_no {xss : List (List Nat)} {ws gs x : List Nat} {unit : Nat} {rn : Int} (h : impOk xss ws gs x unit rn = false) : impD xss ws gs x unit rn = ([], 0) := by simp [impD, h]
end Go.Proofs.Ytalimcjmaoapkaa


namespace Go.Proofs.Ytalimcjmaoapkaa
open Go.RowKit

/-! ### lists one behind the other -/
section
variable {P : Program} {w0 : World} {O : List Ent} {E : Env} {o : Oper}
end

/-! ### sizes -/
theorem sumK_le {xss : List (List Nat)} {b : Nat} (h : ∀ i, i < xss.length → (xss.getD i []).length ≤ b) : ∀ k, k ≤ xss.length → sumK xss k ≤ b * k
  | 0, _ => by rw [sumK_zero]; exact Nat.zero_le _
  | k + 1, hk => by
    have ih := sumK_le h k (by omega)
    have := h k (by omega)
    rw [sumK_succ (by omega), Nat.mul_succ]
    omega
theorem valid_small {xss : List (List Nat)} {ws gs : List Nat} (h : ValidP xss ws gs) : bulk xss + ws.length + gs.length ≤ 528 := by
  obtain ⟨v1, v2, v3, v4, v5, v6, v7, v8⟩ := h
  have := sumK_le (b := 8) (fun i hi => by rw [(v6 i hi).1]; exact v8) xss.length (Nat.le_refl _)
  unfold bulk
  omega
/-! ### what is merged -/
noncomputable def mergeOk (xss yss : List (List Nat)) (ws gs vs hs : List Nat) : Bool := validD xss ws gs && validD yss vs hs && validD (xss ++ yss) (ws ++ vs) (gs ++ hs)
section
variable {xss yss : List (List Nat)} {ws gs vs hs : List Nat}
end

/-! ### one row more -/
theorem Rws.one {w : World} {p : Option Addr × Nat} {xs : List Nat} (h : Cl w p.1 (fl xs)) : Rws w (fun _ => p) [xs] := by
  intro i hi
  have : i = 0 := by simpa using hi
  subst this
  exact h
/-! ### a column scaled -/
section
variable {xss : List (List Nat)} {ws gs : List Nat} {j : Int} {by' : Nat}
end
end Go.Proofs.Ytalimcjmaoapkaa


namespace Go.Proofs.Ytalimcjmaoapkaa
open Go.RowKit

def sgnT (s : List Nat) (j : Nat) : List Nat := s.set j (fneg .f32 (s.getD j 0))
def sgnN (sq : List Nat → Nat) (s : List Nat) (j : Nat) : List Nat := if fcmp .lss .f32 (sq (sgnT s j)) (sq s) then sgnT s j else s
def sgnJ (sq : List Nat → Nat) (s : List Nat) : Nat → List Nat
  | 0 => s
  | j + 1 => sgnN sq (sgnJ sq s j) j
def sgnR (sq : List Nat → Nat) (s : List Nat) : Nat → List Nat
  | 0 => s
  | r + 1 => sgnJ sq (sgnR sq s r) (sgnR sq s r).length
section
variable {sq : List Nat → Nat} {s : List Nat}
theorem sgnN_yes {j : Nat} (h : fcmp .lss .f32 (sq (sgnT s j)) (sq s) = true) : sgnN sq s j = sgnT s j := by unfold sgnN; rw [h]; rfl
theorem sgnN_no {j : Nat} (h : fcmp .lss .f32 (sq (sgnT s j)) (sq s) = false) : sgnN sq s j = s := by unfold sgnN; rw [h]; rfl
theorem sgnT_length {j : Nat} : (sgnT s j).length = s.length := by simp [sgnT]
theorem sgnN_facts (j : Nat) : (sgnN sq s j).length = s.length ∧ ∀ i, i ≠ j → (sgnN sq s j).getD i 0 = s.getD i 0 := by
  unfold sgnN
  split
  · refine ⟨sgnT_length, fun i h => ?_⟩
    simp only [sgnT, List.getD]
    rw [List.getElem?_set_ne (Ne.symm h)]
  · exact ⟨rfl, fun _ _ => rfl⟩
theorem sgnJ_facts : ∀ j, (sgnJ sq s j).length = s.length ∧ ∀ i, j ≤ i → (sgnJ sq s j).getD i 0 = s.getD i 0
  | 0 => ⟨rfl, fun _ _ => rfl⟩
  | j + 1 => by
    obtain ⟨h1, h2⟩ := sgnJ_facts j
    obtain ⟨g1, g2⟩ := sgnN_facts (sq := sq) (s := sgnJ sq s j) j
    exact ⟨g1.trans h1, fun i hi => (g2 i (by omega)).trans (h2 i (by omega))⟩
theorem sgnR_length : ∀ r, (sgnR sq s r).length = s.length
  | 0 => rfl
  | r + 1 => ((sgnJ_facts (sq := sq) (s := sgnR sq s r) _).1).trans (sgnR_length r)
end
/-- The list at the beginning. -/
def sgn0 (xss : List (List Nat)) (size : Nat) : List Nat := List.replicate (xss.getD 0 []).length (fneg .f32 size)
noncomputable def sgnOk (xss : List (List Nat)) (ws gs : List Nat) (size : Nat) (rn : Int) : Bool := validD xss ws gs && above size && decide (0 ≤ rn ∧ rn ≤ 20)
noncomputable def sgnD (xss : List (List Nat)) (ws gs : List Nat) (size : Nat) (rn : Int) : List Nat := if sgnOk xss ws gs size rn then sgnR (fun y => sqK xss ws gs y xss.length) (sgn0 xss size) rn.toNat else []
section
variable {xss : List (List Nat)} {ws gs : List Nat} {size : Nat} {rn : Int}
theorem sgnOk_yes (h : validD xss ws gs = true) (h2 : above size = true) (h3 : 0 ≤ rn ∧ rn ≤ 20) : sgnOk xss ws gs size rn = true := by unfold sgnOk; rw [h, h2, decide_eq_true h3]; rfl
theorem sgnOk_no1 (h : validD xss ws gs = false) : sgnOk xss ws gs size rn = false := by unfold sgnOk; rw [h]; rfl
theorem sgnOk_no2 (h : above size = false) : sgnOk xss ws gs size rn = false := by unfold sgnOk; rw [h, Bool.and_false]; rfl
theorem sgnOk_no3 (h : decide (0 ≤ rn ∧ rn ≤ 20) = false) : sgnOk xss ws gs size rn = false := by unfold sgnOk; rw [h, Bool.and_false]
theorem sgnD_yes (h : sgnOk xss ws gs size rn = true) : sgnD xss ws gs size rn = sgnR (fun y => sqK xss ws gs y xss.length) (sgn0 xss size) rn.toNat := by simp [sgnD, h]
theorem sgnD_no (h : sgnOk xss ws gs size rn = false) : sgnD xss ws gs size rn = [] := by simp [sgnD, h]
theorem sgn0_length : (sgn0 xss size).length = (xss.getD 0 []).length := by simp [sgn0]
theorem fits_sgn {y : List Nat} (h : validD xss ws gs = true) (hl : y.length = (xss.getD 0 []).length) : fitsD xss ws gs y = true := by
  unfold fitsD
  rw [h, hl]
  simp
end

theorem mul8 {m : Nat} (h : m ≤ 8) : IntKind.u64.wrap ((((m : Int) % 2 ^ IntKind.u64.bits).toNat &&& ((4294967295 : Int) % 2 ^ IntKind.u64.bits).toNat : Nat) : Int) = m ∧ Int.fdiv (m : Int) (2 ^ (min 32 IntKind.u64.bits)) = 0 ∧ IntKind.u64.wrap (1 * (m : Int)) = m ∧ IntKind.u64.wrap (0 * (m : Int)) = 0 := by
  have : m = 0 ∨ m = 1 ∨ m = 2 ∨ m = 3 ∨ m = 4 ∨ m = 5 ∨ m = 6 ∨ m = 7 ∨ m = 8 := by omega
  rcases this with rfl | rfl | rfl | rfl | rfl | rfl | rfl | rfl | rfl <;> decide
/-- A list that is filled by doubling. -/
def repK (v m n : Nat) : List Nat := List.replicate n v ++ List.replicate (m - n) 0
theorem repK_length {v m n : Nat} (h : n ≤ m) : (repK v m n).length = m := by simp [repK]; omega
theorem repK_zero {v m : Nat} : repK v m 0 = List.replicate m 0 := by simp [repK]
theorem repK_all {v m : Nat} : repK v m m = List.replicate m v := by simp [repK]
theorem repK_get {v m n i : Nat} (h : n ≤ m) : (repK v m n)[i]? = if i < n then some v else if i < m then some 0 else none := by
  unfold repK
  by_cases h1 : i < n
  · rw [if_pos h1, List.getElem?_append_left (by simpa using h1), List.getElem?_replicate, if_pos h1]
  · rw [if_neg h1, List.getElem?_append_right (by simp; omega), List.getElem?_replicate]
    simp only [List.length_replicate]
    by_cases h2 : i < m
    · rw [if_pos h2, if_pos (by omega)]
    · rw [if_neg h2, if_neg (by omega)]
theorem setAt_get (us : List Value) : ∀ (cs : List Value) (k i : Nat), k + cs.length ≤ us.length → (setAt us k cs)[i]? = if k ≤ i ∧ i < k + cs.length then cs[i - k]? else us[i]?
  | [], k, i, _ => by rw [setAt, if_neg (by simp only [List.length_nil]; omega)]
  | c :: cs, k, i, h => by
    simp only [List.length_cons] at h
    rw [setAt, setAt_get (us.set k c) cs (k + 1) i (by simp only [List.length_set]; omega)]
    simp only [List.length_cons]
    by_cases h1 : k + 1 ≤ i ∧ i < k + 1 + cs.length
    · rw [if_pos h1, if_pos (by omega), show i - k = (i - (k + 1)) + 1 by omega, List.getElem?_cons_succ]
    · rw [if_neg h1]
      by_cases h2 : i = k
      · subst h2
        rw [if_pos (by omega), Nat.sub_self, List.getElem?_set_self (by omega)]
        rfl
      · rw [if_neg (by omega), List.getElem?_set_ne (Ne.symm h2)]
theorem fl_get? (xs : List Nat) (i : Nat) : (fl xs)[i]? = (xs[i]?).map (Value.float .f32) := by simp [fl]
theorem repK_set {v m n q : Nat} (h : n + q ≤ m) : setAt (fl (repK v m n)) n (fl (List.replicate q v)) = fl (repK v m (n + q)) := by
  apply List.ext_getElem?
  intro i
  rw [setAt_get _ _ _ _ (by rw [fl_length, fl_length, repK_length (by omega), List.length_replicate]; exact h), fl_length, List.length_replicate, fl_get?, fl_get?, fl_get?, repK_get (by omega), repK_get h]
  by_cases h1 : n ≤ i ∧ i < n + q
  · rw [if_pos h1, List.getElem?_replicate, if_pos (by omega), if_pos h1.2]
  · rw [if_neg h1]
    by_cases h2 : i < n
    · rw [if_pos h2, if_pos (show i < n + q by omega)]
    · rw [if_neg h2, if_neg (show ¬ i < n + q by omega)]
theorem repK_first {v m : Nat} (h : 1 ≤ m) : setAt (cycle [Value.float .f32 0] m) 0 (fl [v]) = fl (repK v m 1) := by
  have h2 := repK_set (v := v) (m := m) (n := 0) (q := 1) (by omega)
  rw [repK_zero, ← fl_zeros] at h2
  exact h2
theorem repK_part {v m n q : Nat} (h : n ≤ m) (hq : q ≤ n) : (fl (repK v m n)).take q = fl (List.replicate q v) := by
  apply List.ext_getElem?
  intro i
  rw [List.getElem?_take, fl_get?, fl_get?, repK_get h, List.getElem?_replicate]
  by_cases h1 : i < q
  · rw [if_pos h1, if_pos (by omega), if_pos h1]
  · rw [if_neg h1, if_neg h1]; rfl
end Go.Proofs.Ytalimcjmaoapkaa


namespace Go.Proofs.Ytalimcjmaoapkaa
open Go.RowKit

/-- What is known is less. -/
theorem Ent.at.less {B : Nat} {w : World} {a : Option Addr} {us vs : List Value} {cap : Nat} {ty : TypeId} (h : Ent.at B w ⟨a, us, cap, ty⟩) (hl : vs.length ≤ us.length) (hv : ∀ (j : Nat) u, vs[j]? = some u → us[j]? = some u) : Ent.at B w ⟨a, vs, cap, ty⟩ := by
  rcases h with h | ⟨b, c, h1, h2, h3, h4, h5, h6⟩
  · refine .inl ⟨List.eq_nil_of_length_eq_zero ?_, h.2⟩
    have := h.1
    simp only at this
    subst this
    simpa using hl
  · exact .inr ⟨b, c, h1, h2, h3, h4, Nat.le_trans hl h5, fun j u hj => h6 j u (hv j u hj)⟩
theorem Hp.less {w0 w : World} {F : List Ent} {a : Option Addr} {us vs : List Value} {cap : Nat} {ty : TypeId} (hw : Hp w0 (F ++ [⟨a, us, cap, ty⟩]) w) (hl : vs.length ≤ us.length) (hv : ∀ (j : Nat) u, vs[j]? = some u → us[j]? = some u) : Hp w0 (F ++ [⟨a, vs, cap, ty⟩]) w := by
  have hm := hw.mid
  rw [List.append_nil] at hm
  obtain ⟨h1, h2, h3, h4⟩ := hm
  exact Hp.of_mid hw.below (by rw [List.append_nil]; exact h1) (h2.less hl hv) (by rw [List.append_nil]; exact h3) (by rw [List.append_nil]; exact h4)

noncomputable def dropOk (xss : List (List Nat)) (ws gs : List Nat) (j : Int) : Bool := validD xss ws gs && decide (0 ≤ j ∧ j ≤ (xss.length : Int) - 1) && validD (xss.eraseIdx j.toNat) (ws.eraseIdx j.toNat) (gs.eraseIdx j.toNat)
section
variable {xss : List (List Nat)} {ws gs : List Nat} {j : Int}
noncomputable def dropX (xss : List (List Nat)) (ws gs : List Nat) (j : Int) : List (List Nat) := if dropOk xss ws gs j then xss.eraseIdx j.toNat else []
noncomputable def dropW (xss : List (List Nat)) (ws gs : List Nat) (j : Int) : List Nat := if dropOk xss ws gs j then ws.eraseIdx j.toNat else []
noncomputable def dropG (xss : List (List Nat)) (ws gs : List Nat) (j : Int) : List Nat := if dropOk xss ws gs j then gs.eraseIdx j.toNat else []
end
end Go.Proofs.Ytalimcjmaoapkaa


namespace Go.Proofs.Ytalimcjmaoapkaa
open Go.RowKit

/-- how many units 1/128 has -/
def dyU : FloatKind → Nat
  | .f32 => 142
  | .f64 => 1067
/-- The places behind the point. -/
def dyF : FloatKind → Nat
  | .f32 => 23
  | .f64 => 52
theorem binade_is (k : FloatKind) : k.format.binade = 2 ^ dyF k := by cases k <;> decide
theorem dyF_le (k : FloatKind) : 23 ≤ dyF k ∧ dyF k ≤ dyU k := by cases k <;> decide
theorem infRung_is (k : FloatKind) : k.format.infRung = (if k = .f32 then 255 else 2047) * 2 ^ dyF k := by cases k <;> decide
/-- n/128 is a number of the format. -/
theorem dy_rep (k : FloatKind) {n : Nat} (h : n < 2 ^ 24) : ∃ r, r < k.format.infRung ∧ units k.format r = n * 2 ^ dyU k := by
  by_cases h0 : n = 0
  · subst h0
    exact ⟨0, by cases k <;> decide, by rw [(units_zero k.format).2 rfl, Nat.zero_mul]⟩
  · have hl : n.log2 ≤ 23 := by
      have := (Nat.log2_lt h0).2 h
      omega
    obtain ⟨f1, f2⟩ := dyF_le k
    have hb := binade_is k
    generalize hF : dyF k = F at *
    generalize hU : dyU k = U at *
    have h1 := Nat.log2_self_le h0
    have h2 : n < 2 ^ (n.log2 + 1) := Nat.lt_log2_self
    -- the number, shifted to the format's places
    have m1 : 2 ^ F ≤ n * 2 ^ (F - n.log2) := by
      calc 2 ^ F = 2 ^ n.log2 * 2 ^ (F - n.log2) := by rw [← Nat.pow_add]; congr 1; omega
        _ ≤ n * 2 ^ (F - n.log2) := Nat.mul_le_mul_right _ h1
    have m2 : n * 2 ^ (F - n.log2) < 2 ^ F * 2 := by
      calc n * 2 ^ (F - n.log2) < 2 ^ (n.log2 + 1) * 2 ^ (F - n.log2) := Nat.mul_lt_mul_of_pos_right h2 (pow_pos' _)
        _ = 2 ^ F * 2 := by rw [← Nat.pow_add, ← Nat.pow_succ]; congr 1; omega
    generalize hm : n * 2 ^ (F - n.log2) = m at *
    have hp := pow_pos' F
    refine ⟨(U - F + n.log2 + 1) * 2 ^ F + (m - 2 ^ F), ?_, ?_⟩
    · rw [infRung_is, hF]
      have hc : U - F + n.log2 + 2 ≤ (if k = .f32 then 255 else 2047) := by
        cases k
        · simp [dyU, dyF] at hU hF; subst hU; subst hF; simp; omega
        · simp [dyU, dyF] at hU hF; subst hU; subst hF; simp; omega
      have := Nat.mul_le_mul_right (2 ^ F) hc
      have e : (U - F + n.log2 + 2) * 2 ^ F = (U - F + n.log2 + 1) * 2 ^ F + 2 ^ F := by rw [← Nat.succ_mul]
      omega
    · have hr : (U - F + n.log2 + 1) * 2 ^ F ≥ 2 ^ F := Nat.le_mul_of_pos_left _ (by omega)
      unfold units
      rw [hb, if_neg (by omega)]
      have e1 : ((U - F + n.log2 + 1) * 2 ^ F + (m - 2 ^ F)) % 2 ^ F = m - 2 ^ F := by
        rw [Nat.add_comm, Nat.add_mul_mod_self_right, Nat.mod_eq_of_lt (by omega)]
      have e2 : ((U - F + n.log2 + 1) * 2 ^ F + (m - 2 ^ F)) / 2 ^ F = U - F + n.log2 + 1 := by
        rw [Nat.add_comm, Nat.add_mul_div_right _ _ hp, Nat.div_eq_of_lt (by omega), Nat.zero_add]
      rw [e1, e2, show 2 ^ F + (m - 2 ^ F) = m by omega, ← hm, Nat.mul_assoc, ← Nat.pow_add]
      congr 2
      omega
/-- The word x is v/128. -/
def dy (k : FloatKind) (x : Nat) (v : Int) : Prop := x < 2 ^ k.format.width ∧ rng k.format x < k.format.infRung ∧ sval k.format x = v * 2 ^ dyU k
section
variable {k : FloatKind} {x y : Nat} {a b c : Int}
theorem dy_word (s : Bool) {n : Nat} (h : n < 2 ^ 24) {v : Int} (hv : v = if s then -(n : Int) else (n : Int)) : ∃ r, r < k.format.infRung ∧ units k.format r = n * 2 ^ dyU k ∧ dy k (k.format.word s r) v := by
  obtain ⟨r, h1, h2⟩ := dy_rep k h
  obtain ⟨w1, w2⟩ := rng_word k s (Nat.le_of_lt h1)
  refine ⟨r, h1, h2, ?_, by rw [w1]; exact h1, ?_⟩
  · have hw : k.format.infRung < k.format.signWeight := by cases k <;> decide
    rw [width_pos]
    unfold Ieee.Format.word
    split <;> omega
  · unfold sval
    rw [w2, w1, h2, hv]
    cases s <;> simp [Int.neg_mul]
theorem fnan_fin (h : rng k.format x < k.format.infRung) : fnan k x = false := by rw [fnan_rng]; exact decide_eq_false (by omega)
theorem dy.num (h : dy k x a) : fnan k x = false := fnan_fin h.2.1
/-- a sum, in units -/
theorem sum_units (hx : rng k.format x < k.format.infRung) (hy : rng k.format y < k.format.infRung) (t : Bool) : ∃ (s : Bool) (M q : Nat), ((k.format.read x).sum (if t then (k.format.read y).opposite else k.format.read y)) = some (.number s M (k.format.leastPlace + (q : Int))) ∧
    M * 2 ^ q = (sval k.format x + (if t then -sval k.format y else sval k.format y)).natAbs ∧ (s = true → sval k.format x + (if t then -sval k.format y else sval k.format y) ≤ 0) ∧ (s = false → 0 ≤ sval k.format x + (if t then -sval k.format y else sval k.format y)) := by
  obtain ⟨m, e, h1, h2⟩ := read_number k.format hx
  obtain ⟨n, d, h3, h4⟩ := read_number k.format hy
  have hs : ∀ t : Bool, (if t then (k.format.read y).opposite else k.format.read y) = .number (sgn k.format y ^^ t) n (k.format.leastPlace + (d : Nat)) := by
    intro t; rw [h3]; cases t <;> simp [Ieee.Datum.opposite]
  rw [hs, h1]
  simp only [Ieee.Datum.sum, signed_val]
  generalize hc : min e d = q
  have hmin : min (k.format.leastPlace + (e : Int)) (k.format.leastPlace + (d : Int)) = k.format.leastPlace + (q : Int) := by omega
  rw [hmin]
  have e1 : (k.format.leastPlace + (e : Int) - (k.format.leastPlace + (q : Int))).toNat = e - q := by omega
  have e2 : (k.format.leastPlace + (d : Int) - (k.format.leastPlace + (q : Int))).toNat = d - q := by omega
  rw [e1, e2]
  have g1 : m * 2 ^ (e - q) * 2 ^ q = units k.format (rng k.format x) := by rw [← h2, Nat.mul_assoc, ← Nat.pow_add]; congr 2; omega
  have g2 : n * 2 ^ (d - q) * 2 ^ q = units k.format (rng k.format y) := by rw [← h4, Nat.mul_assoc, ← Nat.pow_add]; congr 2; omega
  have hv : sval k.format x + (if t then -sval k.format y else sval k.format y) = ((if sgn k.format x = true then -((m * 2 ^ (e - q) : Nat) : Int) else ((m * 2 ^ (e - q) : Nat) : Int)) + (if (sgn k.format y ^^ t) = true then -((n * 2 ^ (d - q) : Nat) : Int) else ((n * 2 ^ (d - q) : Nat) : Int))) * ((2 ^ q : Nat) : Int) := by
    unfold sval
    rw [← g1, ← g2]
    generalize m * 2 ^ (e - q) = A
    generalize n * 2 ^ (d - q) = B
    generalize 2 ^ q = C
    rw [Int.add_mul]
    cases sgn k.format x <;> cases sgn k.format y <;> cases t <;> simp [Int.neg_mul]
  rw [hv]
  generalize (if sgn k.format x = true then -((m * 2 ^ (e - q) : Nat) : Int) else ((m * 2 ^ (e - q) : Nat) : Int)) + (if (sgn k.format y ^^ t) = true then -((n * 2 ^ (d - q) : Nat) : Int) else ((n * 2 ^ (d - q) : Nat) : Int)) = T
  have hp : (0 : Int) < ((2 ^ q : Nat) : Int) := by exact_mod_cast pow_pos' q
  refine ⟨_, _, q, rfl, by rw [Int.natAbs_mul]; rfl, fun h => ?_, fun h => ?_⟩
  · have : T ≤ 0 := by
      split at h
      · omega
      · have := of_decide_eq_true h; omega
    exact Int.mul_nonpos_of_nonpos_of_nonneg this (Int.le_of_lt hp)
  · have : 0 ≤ T := by
      split at h
      · omega
      · have := of_decide_eq_false h; omega
    exact Int.mul_nonneg this (Int.le_of_lt hp)
theorem dy_write {s : Bool} {M q : Nat} {X v : Int} (hM : M * 2 ^ q = X.natAbs) (hX : X = v * 2 ^ dyU k) (h1 : s = true → X ≤ 0) (h2 : s = false → 0 ≤ X) (hv : v.natAbs < 2 ^ 24) : dy k (k.format.write (.number s M (k.format.leastPlace + (q : Int)))) v := by
  have hp : (0 : Int) < 2 ^ dyU k := Int.pow_pos (by decide)
  have hsv : v = if s then -(v.natAbs : Int) else (v.natAbs : Int) := by
    cases s
    · have : 0 ≤ v := by
        have := h2 rfl
        rw [hX] at this
        exact Int.le_of_mul_le_mul_right (by rw [Int.zero_mul]; exact this) hp
      simp; omega
    · have : v ≤ 0 := by
        have := h1 rfl
        rw [hX] at this
        exact Int.le_of_mul_le_mul_right (by rw [Int.zero_mul]; exact this) hp
      simp; omega
  obtain ⟨r, g1, g2, g3⟩ := dy_word (k := k) s hv hsv
  have hw : k.format.write (.number s M (k.format.leastPlace + (q : Int))) = k.format.word s r := by
    show k.format.nearest s M _ = _
    refine nearest_units k.format s (a := 0) (b := q) (Nat.le_of_lt g1) (by omega) ?_
    rw [hM, hX, g2, Int.natAbs_mul, Int.natAbs_pow, Nat.pow_zero, Nat.mul_one]; rfl
  rw [hw]; exact g3
theorem dy_add (hx : dy k x a) (hy : dy k y b) (h : (a + b).natAbs < 2 ^ 24) : dy k (fop .add k x y) (a + b) := by
  obtain ⟨s, M, q, e1, e2, e3, e4⟩ := sum_units hx.2.1 hy.2.1 false
  unfold fop floatBits Ieee.Format.add
  simp only [Bool.false_eq_true, if_false] at e1 e2 e3 e4
  simp only [e1, Option.map_some, Option.getD_some]
  exact dy_write e2 (by rw [hx.2.2, hy.2.2, Int.add_mul]) e3 e4 h
theorem dy_sub (hx : dy k x a) (hy : dy k y b) (h : (a - b).natAbs < 2 ^ 24) : dy k (fop .sub k x y) (a - b) := by
  obtain ⟨s, M, q, e1, e2, e3, e4⟩ := sum_units hx.2.1 hy.2.1 true
  unfold fop floatBits Ieee.Format.sub
  simp only [if_true] at e1 e2 e3 e4
  simp only [e1, Option.map_some, Option.getD_some]
  exact dy_write e2 (by rw [hx.2.2, hy.2.2, Int.sub_mul]; omega) e3 e4 h
theorem dy.units (hx : dy k x a) : Go.Proofs.Ytalimcjmaoapkaa.units k.format (rng k.format x) = a.natAbs * 2 ^ dyU k := by
  have := congrArg Int.natAbs hx.2.2
  rw [Int.natAbs_mul, Int.natAbs_pow] at this
  unfold sval at this
  split at this <;> simpa using this
theorem dy.sgn (hx : dy k x a) : (Go.Proofs.Ytalimcjmaoapkaa.sgn k.format x = true → a ≤ 0) ∧ (Go.Proofs.Ytalimcjmaoapkaa.sgn k.format x = false → 0 ≤ a) := by
  have hp : (0 : Int) < 2 ^ dyU k := Int.pow_pos (by decide)
  have := hx.2.2
  unfold sval at this
  constructor <;> intro hs <;> rw [hs] at this
  · have h0 : a * 2 ^ dyU k ≤ 0 := by rw [← this]; simp
    exact Int.le_of_mul_le_mul_right (by rw [Int.zero_mul]; exact h0) hp
  · have h0 : 0 ≤ a * 2 ^ dyU k := by rw [← this]; simp
    exact Int.le_of_mul_le_mul_right (by rw [Int.zero_mul]; exact h0) hp
theorem dy_mul (hx : dy k x a) (hy : dy k y b) (h : a * b = 128 * c) (hc : c.natAbs < 2 ^ 24) : dy k (fop .mul k x y) c := by
  obtain ⟨m, e, h1, h2⟩ := read_number k.format hx.2.1
  obtain ⟨n, d, h3, h4⟩ := read_number k.format hy.2.1
  have ha := hx.units
  have hb := hy.units
  have sa := hx.sgn
  have sb := hy.sgn
  have hsc : c = if (sgn k.format x ^^ sgn k.format y) then -(c.natAbs : Int) else (c.natAbs : Int) := by
    have key : ((sgn k.format x ^^ sgn k.format y) = true → a * b ≤ 0) ∧ ((sgn k.format x ^^ sgn k.format y) = false → 0 ≤ a * b) := by
      cases hsx : sgn k.format x <;> cases hsy : sgn k.format y
      · exact ⟨by simp, fun _ => Int.mul_nonneg (sa.2 hsx) (sb.2 hsy)⟩
      · exact ⟨fun _ => Int.mul_nonpos_of_nonneg_of_nonpos (sa.2 hsx) (sb.1 hsy), by simp⟩
      · exact ⟨fun _ => Int.mul_nonpos_of_nonpos_of_nonneg (sa.1 hsx) (sb.2 hsy), by simp⟩
      · exact ⟨by simp, fun _ => Int.mul_nonneg_of_nonpos_of_nonpos (sa.1 hsx) (sb.1 hsy)⟩
    cases hss : (sgn k.format x ^^ sgn k.format y)
    · have := key.2 hss; simp; omega
    · have := key.1 hss; simp; omega
  obtain ⟨r, g1, g2, g3⟩ := dy_word (k := k) (sgn k.format x ^^ sgn k.format y) hc hsc
  have hnat : a.natAbs * b.natAbs = 128 * c.natAbs := by rw [← Int.natAbs_mul, h, Int.natAbs_mul]; rfl
  unfold fop floatBits Ieee.Format.mul
  simp only [h1, h3, Ieee.Datum.product, Option.map_some, Option.getD_some]
  have hw : k.format.write (.number (sgn k.format x ^^ sgn k.format y) (m * n) (k.format.leastPlace + (e : Int) + (k.format.leastPlace + (d : Int)))) = k.format.word (sgn k.format x ^^ sgn k.format y) r := by
    show k.format.nearest _ (m * n) _ = _
    refine nearest_units k.format _ (a := dyU k + 7) (b := e + d) (Nat.le_of_lt g1) ?_ ?_
    · have : k.format.leastPlace = -((dyU k + 7 : Nat) : Int) := by cases k <;> decide
      rw [this]; omega
    · calc m * n * 2 ^ (e + d) = (m * 2 ^ e) * (n * 2 ^ d) := by rw [Nat.pow_add]; simp only [Nat.mul_assoc, Nat.mul_left_comm]
        _ = (a.natAbs * b.natAbs) * (2 ^ dyU k * 2 ^ dyU k) := by rw [h2, h4, ha, hb]; simp only [Nat.mul_assoc, Nat.mul_left_comm]
        _ = units k.format r * 2 ^ (dyU k + 7) := by rw [hnat, g2, Nat.pow_add, show (128 : Nat) = 2 ^ 7 from rfl]; simp only [Nat.mul_assoc, Nat.mul_left_comm, Nat.mul_comm]
  rw [hw]; exact g3
end
end Go.Proofs.Ytalimcjmaoapkaa


namespace Go.Proofs.Ytalimcjmaoapkaa
open Go.RowKit

def w2w (k : Nat) : Nat := fop .quo .f32 (FloatKind.f32.nearest ((k : Int) - 8)) 1073741824
def g2w (k : Nat) : Nat := fop .quo .f32 (FloatKind.f32.nearest (1 + (k : Int))) 1073741824
def H9 (y : Nat) : Prop := ∃ k : Nat, k < 9 ∧ y = hqw k
def W17 (y : Nat) : Prop := ∃ k : Nat, k < 17 ∧ y = w2w k
def G4 (y : Nat) : Prop := ∃ k : Nat, k < 4 ∧ y = g2w k
def Q17 (y : Nat) : Prop := ∃ k : Nat, k < 17 ∧ y = qw k
/-! ### tables -/
def dyb (x : Nat) (v : Int) : Bool := decide (x < 2 ^ FloatKind.f32.format.width) && decide (rng FloatKind.f32.format x < FloatKind.f32.format.infRung) && decide (sval FloatKind.f32.format x = v * 2 ^ dyU .f32)
theorem dyb_is {x : Nat} {v : Int} (h : dyb x v = true) : dy .f32 x v := by
  unfold dyb at h
  simp only [Bool.and_eq_true, decide_eq_true_eq] at h
  exact ⟨h.1.1, h.1.2, h.2⟩
theorem tH : ∀ k : Fin 9, (dyb (hqw k) (64 * ((k.val : Int) - 4)) && fin (hqw k) && fin (fop .mul .f32 (hqw k) 1073741824)) = true := by decide +kernel
theorem tW : ∀ k : Fin 17, (dyb (w2w k) (64 * ((k.val : Int) - 8)) && fin (w2w k)) = true := by decide +kernel
theorem tG : ∀ k : Fin 4, (dyb (g2w k) (64 * ((k.val : Int) + 1)) && least (g2w k)) = true := by decide +kernel
theorem tQ : ∀ k : Fin 17, (dyb (qw k) (32 * ((k.val : Int) - 8)) && fin (qw k) && fin (fop .quo .f32 (qw k) 1073741824)) = true := by decide +kernel
theorem tS : ∀ r : Fin 9, ∀ s : Fin 17, (fop .mul .f32 (fop .mul .f32 (hqw r) 1073741824) (fop .quo .f32 (qw s) 1073741824) == fop .mul .f32 (hqw r) (qw s)) = true := by decide +kernel
theorem hH {y : Nat} (h : H9 y) : ∃ v : Int, v.natAbs ≤ 4 ∧ dy .f32 y (64 * v) ∧ fin y = true ∧ fin (fop .mul .f32 y 1073741824) = true := by
  obtain ⟨k, hk, rfl⟩ := h
  have := tH ⟨k, hk⟩
  simp only [Bool.and_eq_true] at this
  exact ⟨(k : Int) - 4, by omega, dyb_is this.1.1, this.1.2, this.2⟩
theorem hW {y : Nat} (h : W17 y) : ∃ v : Int, v.natAbs ≤ 8 ∧ dy .f32 y (64 * v) ∧ fin y = true := by
  obtain ⟨k, hk, rfl⟩ := h
  have := tW ⟨k, hk⟩
  simp only [Bool.and_eq_true] at this
  exact ⟨(k : Int) - 8, by omega, dyb_is this.1, this.2⟩
theorem hG {y : Nat} (h : G4 y) : ∃ v : Nat, v ≤ 4 ∧ dy .f32 y (64 * (v : Int)) ∧ least y = true := by
  obtain ⟨k, hk, rfl⟩ := h
  have := tG ⟨k, hk⟩
  simp only [Bool.and_eq_true] at this
  exact ⟨k + 1, by omega, dyb_is this.1, this.2⟩
theorem hQ {y : Nat} (h : Q17 y) : ∃ v : Int, v.natAbs ≤ 8 ∧ dy .f32 y (32 * v) ∧ fin y = true ∧ fin (fop .quo .f32 y 1073741824) = true := by
  obtain ⟨k, hk, rfl⟩ := h
  have := tQ ⟨k, hk⟩
  simp only [Bool.and_eq_true] at this
  exact ⟨(k : Int) - 8, by omega, dyb_is this.1.1, this.1.2, this.2⟩
theorem hS {a q : Nat} (h : H9 a) (h2 : Q17 q) : fop .mul .f32 (fop .mul .f32 a 1073741824) (fop .quo .f32 q 1073741824) = fop .mul .f32 a q := by
  obtain ⟨r, hr, rfl⟩ := h
  obtain ⟨s, hs, rfl⟩ := h2
  exact beq_iff_eq.1 (tS ⟨r, hr⟩ ⟨s, hs⟩)
theorem dy_z {k : FloatKind} : dy k 0 0 := by
  refine ⟨by cases k <;> decide, by cases k <;> decide, ?_⟩
  rw [Int.zero_mul]; cases k <;> decide
theorem mulc (a b u v : Int) : (a * u) * (b * v) = (a * b) * (u * v) := by rw [Int.mul_assoc, Int.mul_left_comm u b v, ← Int.mul_assoc]
theorem natAbs_mul_le {a b : Int} {m n : Nat} (h1 : a.natAbs ≤ m) (h2 : b.natAbs ≤ n) : (a * b).natAbs ≤ m * n := by rw [Int.natAbs_mul]; exact Nat.mul_le_mul h1 h2
/-! ### what is missed -/
section
variable {xs x ws gs : List Nat} {xss : List (List Nat)} {n m i : Nat}
theorem getD_H {α : Type} {p : α → Prop} {l : List α} (h : ∀ y ∈ l, p y) {k : Nat} (hk : k < l.length) (d : α) : p (l.getD k d) := by
  have : l.getD k d = l[k] := by simp [List.getD, hk]
  rw [this]; exact h _ (List.getElem_mem hk)
theorem dot_dy (h1 : ∀ y ∈ xs, H9 y) (h2 : ∀ y ∈ x, Q17 y) : ∀ k, k ≤ xs.length → k ≤ x.length → k ≤ 3 → ∃ D : Int, D.natAbs ≤ 32 * k ∧ dy .f32 (dotK xs x k) (16 * D)
  | 0, _, _, _ => ⟨0, by decide, dy_z⟩
  | k + 1, ha, hb, hc => by
    obtain ⟨D, d1, d2⟩ := dot_dy h1 h2 k (by omega) (by omega) (by omega)
    obtain ⟨u, u1, u2, _⟩ := hH (getD_H h1 (show k < xs.length by omega) 0)
    obtain ⟨v, v1, v2, _⟩ := hQ (getD_H h2 (show k < x.length by omega) 0)
    have hb2 := natAbs_mul_le u1 v1
    have hm := dy_mul (c := 16 * (u * v)) u2 v2 (by rw [mulc]; omega) (by omega)
    have ha2 := dy_add d2 hm (by omega)
    exact ⟨D + u * v, by omega, by rw [dotK, Int.mul_add]; exact ha2⟩
/-- A row's part of the sum. -/
def tm (xss : List (List Nat)) (ws gs x : List Nat) (i : Nat) : Nat := fop .mul .f32 (fop .mul .f32 (gs.getD i 0) (missAt xss ws x i)) (missAt xss ws x i)
theorem sqK_s (k : Nat) : sqK xss ws gs x (k + 1) = fop .add .f32 (sqK xss ws gs x k) (tm xss ws gs x k) := rfl
/-- A design of halves. -/
structure DDok (xss : List (List Nat)) (ws gs : List Nat) (n : Nat) : Prop where
  m1 : 1 ≤ xss.length
  m2 : xss.length ≤ 10
  n1 : 1 ≤ n
  n2 : n ≤ 3
  rows : ∀ xs ∈ xss, xs.length = n ∧ ∀ y ∈ xs, H9 y
  wl : ws.length = xss.length
  gl : gs.length = xss.length
  hw : ∀ y ∈ ws, W17 y
  hg : ∀ y ∈ gs, G4 y
theorem miss_dy (h : DDok xss ws gs n) (hx : ∀ y ∈ x, Q17 y) (hl : x.length = n) (hi : i < xss.length) : ∃ t : Int, t.natAbs ≤ 128 ∧ dy .f32 (missAt xss ws x i) (16 * t) := by
  obtain ⟨r1, r2⟩ := getD_H h.rows hi []
  obtain ⟨D, d1, d2⟩ := dot_dy r2 hx x.length (by omega) (by omega) (by have := h.n2; omega)
  obtain ⟨v, v1, v2, _⟩ := hW (getD_H h.hw (show i < ws.length by rw [h.wl]; exact hi) 0)
  have hn := h.n2
  have := dy_sub v2 d2 (by omega)
  exact ⟨4 * v - D, by omega, by unfold missAt; rw [show 16 * (4 * v - D) = 64 * v - 16 * D by omega]; exact this⟩
/-! ### what is valid -/
theorem valid_mem (h1 : 1 ≤ xss.length) (h2 : xss.length ≤ 48) (hw : ws.length = xss.length) (hg : gs.length = xss.length) (hwf : ∀ y ∈ ws, fin y = true) (hn : ∀ xs ∈ xss, xs.length = n ∧ ∀ y ∈ xs, fin y = true) (n1 : 1 ≤ n) (n2 : n ≤ 8) (hgl : ∀ y ∈ gs, least y = true) : validD xss ws gs = true := by
  refine valid_yes ⟨h1, h2, hg, hw, List.all_eq_true.2 hwf, fun i hi => ?_, ?_, ?_⟩
  · obtain ⟨r1, r2⟩ := getD_H hn hi []
    obtain ⟨q1, _⟩ := getD_H hn (show 0 < xss.length by omega) []
    exact ⟨by rw [r1, q1], List.all_eq_true.2 r2, getD_H hgl (by omega) 0⟩
  · rw [(getD_H hn (show 0 < xss.length by omega) []).1]; exact n1
  · rw [(getD_H hn (show 0 < xss.length by omega) []).1]; exact n2
theorem row_fin (h : DDok xss ws gs n) : ∀ xs ∈ xss, xs.length = n ∧ ∀ y ∈ xs, fin y = true := fun xs hxs => ⟨(h.rows xs hxs).1, fun y hy => by obtain ⟨_, _, _, h3, _⟩ := hH ((h.rows xs hxs).2 y hy); exact h3⟩
theorem ws_fin (h : DDok xss ws gs n) : ∀ y ∈ ws, fin y = true := fun y hy => by obtain ⟨_, _, _, h3⟩ := hW (h.hw y hy); exact h3
theorem gs_least (h : DDok xss ws gs n) : ∀ y ∈ gs, least y = true := fun y hy => by obtain ⟨_, _, _, h3⟩ := hG (h.hg y hy); exact h3
theorem dd_valid (h : DDok xss ws gs n) : validD xss ws gs = true := valid_mem h.m1 (by have := h.m2; omega) h.wl h.gl (ws_fin h) (row_fin h) h.n1 (by have := h.n2; omega) (gs_least h)
theorem dd_len0 (h : DDok xss ws gs n) : (xss.getD 0 []).length = n := (getD_H h.rows (show 0 < xss.length from h.m1) []).1
theorem mem_app {α : Type} {p : α → Prop} {l r : List α} (h1 : ∀ y ∈ l, p y) (h2 : ∀ y ∈ r, p y) : ∀ y ∈ l ++ r, p y := fun y hy => by
  rcases List.mem_append.1 hy with h | h
  · exact h1 y h
  · exact h2 y h
theorem mem_one {α : Type} {p : α → Prop} {a : α} (h : p a) : ∀ y ∈ [a], p y := fun y hy => by rw [List.mem_singleton.1 hy]; exact h
theorem fits_yes (hv : validD xss ws gs = true) (hl : x.length = (xss.getD 0 []).length) : fitsD xss ws gs x = true := by unfold fitsD; rw [hv, decide_eq_true hl]; rfl
theorem dd_fits (h : DDok xss ws gs n) (hl : x.length = n) : fitsD xss ws gs x = true := fits_yes (dd_valid h) (by rw [hl, dd_len0 h])
theorem getD_setN {l : List Nat} {j k a : Nat} (hk : k < l.length) : (l.set j a).getD k 0 = if j = k then a else l.getD k 0 := by
  simp only [List.getD, List.getElem?_set]
  split
  · rename_i e; subst e; rw [if_pos hk]; rfl
  · rfl
end
/-- All that the law asks of a drawn design, and of currents. -/
structure RtF (xss : List (List Nat)) (ws gs x : List Nat) (S : Nat) : Prop where
  hS : S ≤ 655360
  hX : Cans xss
  hXw : ∀ y ∈ ws, Can .f32 y
  hXg : ∀ y ∈ gs, Can .f32 y
  hadd : mergeOk xss [x] ws gs [1073741824] [1065353216] = true
  hdrop : dropOk (xss ++ [x]) (ws ++ [1073741824]) (gs ++ [1065353216]) (xss.length : Int) = true
  hdX : dropX (xss ++ [x]) (ws ++ [1073741824]) (gs ++ [1065353216]) (xss.length : Int) = xss
  hdW : dropW (xss ++ [x]) (ws ++ [1073741824]) (gs ++ [1065353216]) (xss.length : Int) = ws
  hdG : dropG (xss ++ [x]) (ws ++ [1073741824]) (gs ++ [1065353216]) (xss.length : Int) = gs
  htwo : mergeOk xss xss ws gs ws gs = true
  fit1 : fitsD xss ws gs x = true
  fit2 : fitsD (xss ++ xss) (ws ++ ws) (gs ++ gs) x = true
  dy1 : dy .f32 (squareD xss ws gs x) (S : Int)
  dy2 : dy .f32 (squareD (xss ++ xss) (ws ++ ws) (gs ++ gs) x) (2 * S : Int)
/-- A drawn design, and where it lies. -/
structure DX where
  p : ((Option Addr × Nat) × (Nat → Option Addr × Nat)) × (Option Addr × Nat) × (Option Addr × Nat)
  xss : List (List Nat)
  ws : List Nat
  gs : List Nat
  n : Nat
  at' : Nat
  sd : Nat
def DX.v (x : DX) : Value := .agg #[.slice x.p.1.1.1 x.xss.length x.p.1.1.2, .slice x.p.2.1.1 x.ws.length x.p.2.1.2, .slice x.p.2.2.1 x.gs.length x.p.2.2.2]
theorem rents_nil {t : TypeId} {f : Nat → Option Addr × Nat} : rents t f [] = [] := rfl
end Go.Proofs.Ytalimcjmaoapkaa


namespace Go.Proofs.Ytalimcjmaoapkaa
open Go.RowKit
set_option linter.unusedVariables false
set_option linter.unusedSimpArgs false
set_option maxRecDepth 20000

theorem zero27_Dd : (Try.prog.info? 27).bind (·.zero) = some (Value.agg #[Value.slice none 0 0, Value.slice none 0 0, Value.slice none 0 0]) := by kernel_rfl
theorem known18_Dd : Known Try.prog 18 := Known.mk' Try.func18 (by kernel_rfl)
theorem lay27_Dd : Lay Try.prog 27 [Value.slice none 0 0, Value.slice none 0 0, Value.slice none 0 0] [(0, 1), (1, 1), (2, 1)] := Lay.mk' (by kernel_rfl) (by kernel_rfl)
theorem sz27_Dd : (Try.prog.info? 27).map (·.size) = some 3 := by kernel_rfl
theorem elt33_Dd : Elt Try.prog 33 [Value.float .f32 0] 4 := Elt.mk' (by kernel_rfl) (by decide)
theorem sz24_Dd : (Try.prog.info? 24).map (·.size) = some 1 := by kernel_rfl
theorem fb24_Dd : flatB Try.prog 24 = true := by kernel_rfl
theorem elt25_Dd : Elt Try.prog 25 [Value.slice none 0 0] 24 := Elt.mk' (by kernel_rfl) (by decide)
theorem mixed_Dd : Try.prog.follows .mixedOrders = true := by kernel_rfl
theorem sz25_Dd : (Try.prog.info? 25).map (·.size) = some 1 := by kernel_rfl
theorem fb25_Dd : flatB Try.prog 25 = true := by kernel_rfl
theorem known16_Dd : Known Try.prog 16 := Known.mk' Try.func16 (by kernel_rfl)
theorem known17_Dd : Known Try.prog 17 := Known.mk' Try.func17 (by kernel_rfl)
theorem sz5_Dd : (Try.prog.info? 5).map (·.size) = some 1 := by kernel_rfl
theorem fb5_Dd : flatB Try.prog 5 = true := by kernel_rfl
attribute [local irreducible] fop fcmp fconv fneg fabs List.getD qw hqw w2w g2w uw

theorem c_drawOk {w0 : World} {a : Option Addr} {c q n sd : Nat} {bs : List Int} (hA : Cl w0 a (bl bs)) (hb : Bytes bs) (hl : bs.length ≤ 2000000) (hn : n ≤ 90000) (hsd : sd < 18446744073709551616) : Mut Try.prog 17 [.pointer (some (adr (some ⟨q, 0, none⟩) 0))] w0 [⟨some ⟨q, 0, none⟩, [.slice a bs.length c, .int .i64 ((n : Nat) : Int), .int .u64 ((sd : Nat) : Int)], 3, 60⟩] (fun x : {x : DX // DDok x.xss x.ws x.gs x.n ∧ (n ≤ x.at' ∧ x.at' ≤ n + 60) ∧ x.sd < 18446744073709551616} => x.1.v) (fun x => ⟨some ⟨q, 0, none⟩, [.slice a bs.length c, .int .i64 ((x.1.at' : Nat) : Int), .int .u64 ((x.1.sd : Nat) : Int)], 3, 60⟩ :: ⟨x.1.p.2.2.1, fl (x.1.gs), x.1.p.2.2.2 * 1, 33⟩ :: ⟨x.1.p.2.1.1, fl (x.1.ws), x.1.p.2.1.2 * 1, 33⟩ :: ⟨x.1.p.1.1.1, hd x.1.p.1.2 (x.1.xss), x.1.p.1.1.2 * 1, 25⟩ :: rents 33 x.1.p.1.2 (x.1.xss)) := by
  refine Mut.enter Try.func17 rfl Try.ntmps17 (Nat.le_of_ble_eq_true rfl) ?_
  intro F
  haveI hne17 : Nonempty {x : Nat × Nat // x.1 < 17 ∧ x.2 < 18446744073709551616} := ⟨⟨(0, 0), by decide, by decide⟩⟩
  haveI hne4 : Nonempty {x : Nat × Nat // x.1 < 4 ∧ x.2 < 18446744073709551616} := ⟨⟨(0, 0), by decide, by decide⟩⟩
  refine V.seq ?_
  refine V.region ?_
  refine VL.new1 (.inl rfl) rfl (by decide) (yn_alloc rfl zero27_Dd rfl) ?_
  intro b2
  refine VL.nil ?_
  refine VE.then_wp ?_
  refine V.seq ?_
  refine V.region ?_
  refine VL.r (.inl rfl) rfl (by decide) (yr_move rfl rfl) ?_
  refine VL.c (.inl rfl) rfl (by decide) (yc_callf rfl known18_Dd (.cons rfl (.cons rfl .nil)) (by apply Pick.one; repeat (first | exact Rem.here | apply Rem.there | apply Rem.thereS)) (c_pick (m := 3) hA hb (by omega) (by omega) (by omega) (by decide) (by decide))) ?_
  rintro ⟨⟨x9, s9⟩, hx9, hs9⟩
  dsimp only at hx9 hs9
  refine VL.r (.inl rfl) rfl (by decide) (yr_addN (1 + x9) rfl rfl rfl (by push_cast; rfl) (by omega)) ?_
  refine VL.r (.inl rfl) rfl (by decide) (yr_assign rfl rfl) ?_
  refine VL.nil ?_
  refine VE.then_wp ?_
  refine V.seq ?_
  refine V.region ?_
  refine VL.r (.inl rfl) rfl (by decide) (yr_build rfl lay27_Dd rfl .nil (by first | (simp; done) | (simp [vv]; done) | (simp [cn, cn1, cn0]; done)) rfl) ?_
  refine VL.new1 (.inl rfl) rfl (by decide) (yn_alloc rfl zero27_Dd rfl) ?_
  intro b4
  refine VL.s (.inl rfl) rfl (yc_store rfl sz27_Dd rfl rfl (by repeat (first | exact UpdF.here | apply UpdF.there | apply UpdF.thereS)) (.inr ⟨rfl, rfl⟩) rfl (by first | exact Nat.le_of_ble_eq_true rfl | simp) (by decide) rfl) ?_
  rintro ⟨⟩
  refine VL.nil ?_
  refine VE.then_wp ?_
  refine V.seq ?_
  refine V.seq ?_
  refine V.region ?_
  refine VL.r (.inl rfl) rfl (by decide) (yr_move rfl rfl) ?_
  refine VL.c (.inl rfl) rfl (by decide) (yc_callf rfl known18_Dd (.cons rfl (.cons rfl .nil)) (by apply Pick.one; repeat (first | exact Rem.here | apply Rem.there | apply Rem.thereS)) (c_pick (m := 10) hA hb (by omega) (by omega) (by omega) (by decide) (by decide))) ?_
  rintro ⟨⟨x13, s13⟩, hx13, hs13⟩
  dsimp only at hx13 hs13
  refine VL.r (.inl rfl) rfl (by decide) (yr_addN (1 + x13) rfl rfl rfl (by push_cast; rfl) (by omega)) ?_
  refine VL.r (.inl rfl) rfl (by decide) (yr_assign rfl rfl) ?_
  refine VL.nil ?_
  refine VE.then_wp ?_
  refine V.block ?_
  refine V.loopc (G := (List (List Nat)) × (Nat → Option Addr × Nat) × (Option Addr) × Nat × (List Nat) × (Option Addr) × Nat × (List Nat) × (Option Addr) × Nat × Nat × Nat) [(0, _), (2, _), (3, _), (4, _)] (fun ⟨xss, f, ah, ch, ws, aw, cw, gs, ag, cg, nn, sd⟩ => xss.length ≤ (1 + x13) ∧ (∀ xs ∈ xss, xs.length = (1 + x9) ∧ ∀ y ∈ xs, H9 y) ∧ (ws.length = xss.length ∧ gs.length = xss.length) ∧ (∀ y ∈ ws, W17 y) ∧ (∀ y ∈ gs, G4 y) ∧ (n ≤ nn ∧ nn ≤ n + 2 + 5 * xss.length) ∧ sd < 18446744073709551616) (fun ⟨xss, f, ah, ch, ws, aw, cw, gs, ag, cg, nn, sd⟩ => (⟨some ⟨b4, 0, none⟩, [.slice ah xss.length ch, .slice aw ws.length cw, .slice ag gs.length cg], 3, 27⟩ :: ⟨ag, fl gs, cg * 1, 33⟩ :: ⟨aw, fl ws, cw * 1, 33⟩ :: ⟨ah, hd f xss, ch * 1, 25⟩ :: ⟨some ⟨b2, 0, none⟩, [.slice none 0 0, .slice none 0 0, .slice none 0 0], 3, 27⟩ :: ⟨some ⟨q, 0, none⟩, [.slice a bs.length c, .int .i64 ((nn : Nat) : Int), .int .u64 ((sd : Nat) : Int)], 3, 60⟩ :: (rents 33 f xss ++ F))) (fun ⟨xss, f, ah, ch, ws, aw, cw, gs, ag, cg, nn, sd⟩ => [(5, .int .i64 (((1 + x13) - xss.length : Nat) : Int))]) (fun ⟨xss, f, ah, ch, ws, aw, cw, gs, ag, cg, nn, sd⟩ => (1 + x13) - xss.length) ([], fun _ => (none, 0), none, 0, [], none, 0, [], none, 0, n + 1 + 1, s13) (.cons rfl (.cons rfl (.cons rfl (.cons rfl .nil)))) (.cons rfl .nil) ?_ ?_ ?_
  · exact (fun w hw => by
      have h9 := ((hw.nilU 33).nilU 33).nilU 25
      dsimp only
      rw [rents_nil, List.nil_append]
      exact h9.pick (by apply Pick.cons1; (· repeat (first | exact Rem.here | exact Rem.all | exact Rem.hereS | apply Rem.there | apply Rem.thereS)); apply Pick.cons1; (· repeat (first | exact Rem.here | exact Rem.all | exact Rem.hereS | apply Rem.there | apply Rem.thereS)); apply Pick.cons1; (· repeat (first | exact Rem.here | exact Rem.all | exact Rem.hereS | apply Rem.there | apply Rem.thereS)); apply Pick.cons1; (· repeat (first | exact Rem.here | exact Rem.all | exact Rem.hereS | apply Rem.there | apply Rem.thereS)); apply Pick.cons1; (· repeat (first | exact Rem.here | exact Rem.all | exact Rem.hereS | apply Rem.there | apply Rem.thereS)); apply Pick.cons1; (· repeat (first | exact Rem.here | exact Rem.all | exact Rem.hereS | apply Rem.there | apply Rem.thereS)); apply Pick.last; repeat (first | exact Rem.here | exact Rem.all | exact Rem.hereS | apply Rem.there | apply Rem.thereS)))
  · exact (by exact ⟨Nat.zero_le _, fun xs h => (by cases h), ⟨rfl, rfl⟩, fun y h => (by cases h), fun y h => (by cases h), ⟨by show n ≤ n + 1 + 1; omega, by show n + 1 + 1 ≤ n + 2 + 5 * 0; omega⟩, hs13⟩)
  rintro ⟨xss, f, ah, ch, ws, aw, cw, gs, ag, cg, nn, sd⟩ ⟨hl9, hr9, ⟨hw9, hg9⟩, hW9, hG9, hn9, hs9⟩
  show V _ _ _ (⟨some ⟨b4, 0, none⟩, [.slice ah xss.length ch, .slice aw ws.length cw, .slice ag gs.length cg], 3, 27⟩ :: ⟨ag, fl gs, cg * 1, 33⟩ :: ⟨aw, fl ws, cw * 1, 33⟩ :: ⟨ah, hd f xss, ch * 1, 25⟩ :: ⟨some ⟨b2, 0, none⟩, [.slice none 0 0, .slice none 0 0, .slice none 0 0], 3, 27⟩ :: ⟨some ⟨q, 0, none⟩, [.slice a bs.length c, .int .i64 ((nn : Nat) : Int), .int .u64 ((sd : Nat) : Int)], 3, 60⟩ :: (rents 33 f xss ++ F)) ([(5, .int .i64 (((1 + x13) - xss.length : Nat) : Int))] ++ [(0, _), (2, _), (3, _), (4, _)]) _ _
  refine V.seq ?_
  refine V.seq ?_
  refine V.region ?_
  refine VL.r (.inl rfl) rfl (by decide) (yr_move rfl rfl) ?_
  refine VL.r (.inl rfl) rfl (by decide) (yr_icmp rfl (.inr (.inr (.inr (.inr (.inl rfl))))) rfl rfl) ?_
  refine VL.nil ?_
  refine VE.then_wp ?_
  refine V.cond rfl (fun h1 => ?_) (fun h1 => ?_)
  · skip
    replace h1 := ic_gtr h1
    refine V.skip ?_
    refine VE.then_wp ?_
    refine V.seq ?_
    refine V.block ?_
    refine V.seq ?_
    refine V.region ?_
    refine VL.new1 (.inl rfl) rfl (by decide) (yn_lit rfl Try.underlying25 elt33_Dd rfl (by decide) .nil (by first | (simp; done) | (simp [cn, cn1, cn0]; done)) rfl rfl rfl) ?_
    intro b19
    refine VL.r (.inl rfl) rfl (by decide) (yr_assign rfl rfl) ?_
    refine VL.nil ?_
    refine VE.then_wp ?_
    refine V.seq ?_
    refine V.seq ?_
    refine V.region ?_
    refine VL.r (.inl rfl) rfl (by decide) (yr_assign (u := .int .i64 0) rfl rfl) ?_
    refine VL.nil ?_
    refine VE.then_wp ?_
    refine V.block ?_
    refine V.loopc (G := (List Nat) × (Option Addr) × Nat × Nat × Nat) [(0, _), (2, _), (3, _), (4, _), (5, _)] (fun ⟨xs, ar, cr, nn1, sd1⟩ => xs.length ≤ (1 + x9) ∧ (∀ y ∈ xs, H9 y) ∧ (nn ≤ nn1 ∧ nn1 ≤ nn + xs.length) ∧ sd1 < 18446744073709551616) (fun ⟨xs, ar, cr, nn1, sd1⟩ => (⟨ar, fl xs, cr * 1, 33⟩ :: ⟨some ⟨b4, 0, none⟩, [.slice ah xss.length ch, .slice aw ws.length cw, .slice ag gs.length cg], 3, 27⟩ :: ⟨ag, fl gs, cg * 1, 33⟩ :: ⟨aw, fl ws, cw * 1, 33⟩ :: ⟨ah, hd f xss, ch * 1, 25⟩ :: ⟨some ⟨b2, 0, none⟩, [.slice none 0 0, .slice none 0 0, .slice none 0 0], 3, 27⟩ :: ⟨some ⟨q, 0, none⟩, [.slice a bs.length c, .int .i64 ((nn1 : Nat) : Int), .int .u64 ((sd1 : Nat) : Int)], 3, 60⟩ :: (rents 33 f xss ++ F))) (fun ⟨xs, ar, cr, nn1, sd1⟩ => [(6, .slice ar xs.length cr), (7, .int .i64 (xs.length : Int))]) (fun ⟨xs, ar, cr, nn1, sd1⟩ => (1 + x9) - xs.length) ([], some ⟨b19, 0, none⟩, 0, nn, sd) (.cons rfl (.cons rfl (.cons rfl (.cons rfl (.cons rfl .nil))))) (.cons rfl (.cons rfl .nil)) ?_ ?_ ?_
    · exact (fun w hw => by dsimp only; rw [fl_nil]; exact hw.pick (by apply Pick.cons1; (· repeat (first | exact Rem.here | exact Rem.all | exact Rem.hereS | apply Rem.there | apply Rem.thereS)); apply Pick.cons1; (· repeat (first | exact Rem.here | exact Rem.all | exact Rem.hereS | apply Rem.there | apply Rem.thereS)); apply Pick.cons1; (· repeat (first | exact Rem.here | exact Rem.all | exact Rem.hereS | apply Rem.there | apply Rem.thereS)); apply Pick.cons1; (· repeat (first | exact Rem.here | exact Rem.all | exact Rem.hereS | apply Rem.there | apply Rem.thereS)); apply Pick.cons1; (· repeat (first | exact Rem.here | exact Rem.all | exact Rem.hereS | apply Rem.there | apply Rem.thereS)); apply Pick.cons1; (· repeat (first | exact Rem.here | exact Rem.all | exact Rem.hereS | apply Rem.there | apply Rem.thereS)); apply Pick.cons1; (· repeat (first | exact Rem.here | exact Rem.all | exact Rem.hereS | apply Rem.there | apply Rem.thereS)); apply Pick.app1; (· repeat (first | exact Rem.here | exact Rem.all | exact Rem.hereS | apply Rem.there | apply Rem.thereS)); apply Pick.last; repeat (first | exact Rem.here | exact Rem.all | exact Rem.hereS | apply Rem.there | apply Rem.thereS)))
    · exact (by exact ⟨Nat.zero_le _, fun y h => (by cases h), ⟨Nat.le_refl _, Nat.le_refl _⟩, hs9⟩)
    rintro ⟨xs, ar, cr, nn1, sd1⟩ ⟨hm9, hx9, hn8, hs8⟩
    show V _ _ _ (⟨ar, fl xs, cr * 1, 33⟩ :: ⟨some ⟨b4, 0, none⟩, [.slice ah xss.length ch, .slice aw ws.length cw, .slice ag gs.length cg], 3, 27⟩ :: ⟨ag, fl gs, cg * 1, 33⟩ :: ⟨aw, fl ws, cw * 1, 33⟩ :: ⟨ah, hd f xss, ch * 1, 25⟩ :: ⟨some ⟨b2, 0, none⟩, [.slice none 0 0, .slice none 0 0, .slice none 0 0], 3, 27⟩ :: ⟨some ⟨q, 0, none⟩, [.slice a bs.length c, .int .i64 ((nn1 : Nat) : Int), .int .u64 ((sd1 : Nat) : Int)], 3, 60⟩ :: (rents 33 f xss ++ F)) ([(6, .slice ar xs.length cr), (7, .int .i64 (xs.length : Int))] ++ [(0, _), (2, _), (3, _), (4, _), (5, _)]) _ _
    refine V.seq ?_
    refine V.seq ?_
    refine V.region ?_
    refine VL.r (.inl rfl) rfl (by decide) (yr_move rfl rfl) ?_
    refine VL.r (.inl rfl) rfl (by decide) (yr_move rfl rfl) ?_
    refine VL.r (.inl rfl) rfl (by decide) (yr_icmp rfl (.inr (.inr (.inl rfl))) rfl rfl) ?_
    refine VL.nil ?_
    refine VE.then_wp ?_
    refine V.cond rfl (fun h2 => ?_) (fun h2 => ?_)
    · skip
      replace h2 := ic_lss h2
      refine V.skip ?_
      refine VE.then_wp ?_
      refine V.seq ?_
      refine V.block ?_
      refine V.region ?_
      refine VL.r (.inl rfl) rfl (by decide) (yr_move rfl rfl) ?_
      refine VL.r (.inl rfl) rfl (by decide) (yr_move rfl rfl) ?_
      refine VL.c (.inl rfl) rfl (by decide) (yc_callf rfl known18_Dd (.cons rfl (.cons rfl .nil)) (by apply Pick.one; repeat (first | exact Rem.here | apply Rem.there | apply Rem.thereS)) (c_pick (m := 9) hA hb (by omega) (by omega) (by omega) (by decide) (by decide))) ?_
      rintro ⟨⟨x27, s27⟩, hx27, hs27⟩
      dsimp only at hx27 hs27
      refine VL.r (.inl rfl) rfl (by decide) (yr_int rfl rfl rfl (.inr (.inl ⟨rfl, wrap_in (by (try dsimp only); omega)⟩))) ?_
      refine VL.r (.inl rfl) rfl (by decide) (yr_ofInt rfl Try.underlying2 Try.underlying33 rfl) ?_
      refine VL.r (.inl rfl) rfl (by decide) (show YR _ _ _ (.float .f32 (hqw x27)) from (by unfold hqw; exact yr_float rfl (.inr (.inr (.inr rfl))) rfl rfl)) ?_
      refine VL.new1 (.inl rfl) rfl (by decide) (yn_lit rfl Try.underlying25 elt33_Dd rfl (by decide) (.cons rfl .nil) (by first | (simp; done) | (simp [cn, cn1, cn0]; done)) rfl rfl rfl) ?_
      intro b31
      refine VL.c (.inl rfl) rfl (by decide) (yc_appendz 1 rfl rfl Try.underlying25 elt33_Dd rfl rfl (by repeat (first | exact UpdF.here | apply UpdF.there | apply UpdF.thereS)) (by first | exact Sees.root (by assumption) | exact Sees.own (by repeat (first | exact List.mem_cons_self | exact List.mem_append_left _ (by assumption) | apply List.mem_cons_of_mem | apply List.mem_append_right)) | exact Sees.root (hR _ (by omega)) | exact Sees.own (RowsIn.mem (by repeat (first | exact RowsIn.here | exact RowsIn.last | apply RowsIn.there | apply RowsIn.thereS)) _ (by omega)) | exact Sees.own (WRowsIn.mem (by repeat (first | exact WRowsIn.here | exact WRowsIn.last | apply WRowsIn.there | apply WRowsIn.thereS)) _ (by omega))) rfl (by first | (rw [fl_length, Nat.mul_one]; done) | (rw [hd_length, Nat.mul_one]; done) | rw [hd_length] | rw [fl_length]) (by first | rfl | simp) (by first | rfl | exact fl_scal _ | exact hd_scal _ _) (by first | rfl | exact fl_scal _) (by omega) (by omega)) ?_
      rintro ⟨a32, c32⟩
      refine VL.r (.inl rfl) rfl (by decide) (yr_assign rfl rfl) ?_
      refine VL.nil ?_
      refine VE.block_normal ?_
      refine VE.then_wp ?_
      refine V.region ?_
      refine VL.r (.inl rfl) rfl (by decide) (yr_move rfl rfl) ?_
      refine VL.r (.inl rfl) rfl (by decide) (yr_int rfl rfl rfl (.inl ⟨rfl, wrap_in (by (try dsimp only); omega)⟩)) ?_
      refine VL.r (.inl rfl) rfl (by decide) (yr_assign rfl rfl) ?_
      refine VL.nil ?_
      refine VE.round (xs ++ [hqw x27], a32, c32, nn1 + 1, s27) ?_ ?_ ?_ ?_ ?_
      · exact (.cons (congrArg (fun n => some (Value.slice _ n _)) (by rw [List.length_append]; rfl)) (.cons (congrArg (fun i => some (Value.int .i64 i)) (by rw [List.length_append]; rfl)) .nil))
      · exact (.cons rfl (.cons rfl (.cons rfl (.cons rfl (.cons rfl .nil)))))
      · exact (fun w hw => by dsimp only; rw [← fl_snoc]; exact hw.pick (by apply Pick.cons1; (· repeat (first | exact Rem.here | exact Rem.all | exact Rem.hereS | apply Rem.there | apply Rem.thereS)); apply Pick.cons1; (· repeat (first | exact Rem.here | exact Rem.all | exact Rem.hereS | apply Rem.there | apply Rem.thereS)); apply Pick.cons1; (· repeat (first | exact Rem.here | exact Rem.all | exact Rem.hereS | apply Rem.there | apply Rem.thereS)); apply Pick.cons1; (· repeat (first | exact Rem.here | exact Rem.all | exact Rem.hereS | apply Rem.there | apply Rem.thereS)); apply Pick.cons1; (· repeat (first | exact Rem.here | exact Rem.all | exact Rem.hereS | apply Rem.there | apply Rem.thereS)); apply Pick.cons1; (· repeat (first | exact Rem.here | exact Rem.all | exact Rem.hereS | apply Rem.there | apply Rem.thereS)); apply Pick.cons1; (· repeat (first | exact Rem.here | exact Rem.all | exact Rem.hereS | apply Rem.there | apply Rem.thereS)); apply Pick.app1; (· repeat (first | exact Rem.here | exact Rem.all | exact Rem.hereS | apply Rem.there | apply Rem.thereS)); apply Pick.last; repeat (first | exact Rem.here | exact Rem.all | exact Rem.hereS | apply Rem.there | apply Rem.thereS)))
      · dsimp only
        simp only [List.length_append, List.length_cons, List.length_nil, Nat.zero_add]
        exact ⟨by omega, mem_app hx9 (mem_one ⟨x27, hx27, rfl⟩), ⟨by omega, by omega⟩, hs27⟩
      · dsimp only; rw [List.length_append]; show (1 + x9) - (xs.length + 1) < (1 + x9) - xs.length; omega
    · skip
      replace h2 := ic_lss' h2
      refine V.exit ?_
      refine VE.then_exit ?_
      refine VE.then_exit ?_
      refine VE.block_here ?_
      refine VE.then_wp ?_
      refine V.seq ?_
      refine V.region ?_
      refine VL.r (.inl rfl) rfl (by decide) (yr_fieldAddr rfl Try.underlying27 rfl rfl sz24_Dd (by decide) rfl) ?_
      refine VL.q (.inl rfl) rfl (by decide) (yq_load rfl fb24_Dd rfl (by first | exact Sees.root (by assumption) | exact Sees.own (by repeat (first | exact List.mem_cons_self | exact List.mem_append_left _ (by assumption) | apply List.mem_cons_of_mem | apply List.mem_append_right)) | exact Sees.root (hR _ (by omega)) | exact Sees.own (RowsIn.mem (by repeat (first | exact RowsIn.here | exact RowsIn.last | apply RowsIn.there | apply RowsIn.thereS)) _ (by omega)) | exact Sees.own (WRowsIn.mem (by repeat (first | exact WRowsIn.here | exact WRowsIn.last | apply WRowsIn.there | apply WRowsIn.thereS)) _ (by omega))) rfl) ?_
      refine VL.r (.inl rfl) rfl (by decide) (yr_move rfl rfl) ?_
      refine VL.new1 (.inl rfl) rfl (by decide) (yn_lit rfl Try.underlying24 elt25_Dd rfl (by decide) (.cons rfl .nil) (by first | (simp; done) | (simp [cn, cn1, cn0]; done)) rfl rfl rfl) ?_
      intro b36
      refine VL.c (.inl rfl) rfl (by decide) (yc_appendz 1 rfl rfl Try.underlying24 elt25_Dd rfl rfl (by repeat (first | exact UpdF.here | apply UpdF.there | apply UpdF.thereS)) (by first | exact Sees.root (by assumption) | exact Sees.own (by repeat (first | exact List.mem_cons_self | exact List.mem_append_left _ (by assumption) | apply List.mem_cons_of_mem | apply List.mem_append_right)) | exact Sees.root (hR _ (by omega)) | exact Sees.own (RowsIn.mem (by repeat (first | exact RowsIn.here | exact RowsIn.last | apply RowsIn.there | apply RowsIn.thereS)) _ (by omega)) | exact Sees.own (WRowsIn.mem (by repeat (first | exact WRowsIn.here | exact WRowsIn.last | apply WRowsIn.there | apply WRowsIn.thereS)) _ (by omega))) rfl (by first | (rw [fl_length, Nat.mul_one]; done) | (rw [hd_length, Nat.mul_one]; done) | rw [hd_length] | rw [fl_length]) (by first | rfl | simp) (by first | rfl | exact fl_scal _ | exact hd_scal _ _) (by first | rfl | exact fl_scal _) (by omega) (by omega)) ?_
      rintro ⟨a37, c37⟩
      refine VL.r (.inl rfl) rfl (by decide) (yr_fieldAddr rfl Try.underlying27 rfl rfl sz24_Dd (by decide) rfl) ?_
      refine VL.s (.inl rfl) rfl (yc_store rfl sz24_Dd rfl rfl (by repeat (first | exact UpdF.here | apply UpdF.there | apply UpdF.thereS)) (.inl ⟨rfl, rfl⟩) rfl (by first | exact Nat.le_of_ble_eq_true rfl | simp) (by decide) rfl) ?_
      rintro ⟨⟩
      refine VL.nil ?_
      refine VE.then_wp ?_
      refine V.seq ?_
      refine Dr.V.drawR [(0, 5), (1, 5), (2, 5), (3, 3), (4, 5), (5, 5), (6, 5), (7, 1), (8, 3), (9, 5), (10, 4)] [] [⟨some ⟨q, 0, none⟩, [.slice a bs.length c, .int .i64 ((nn1 : Nat) : Int), .int .u64 ((sd1 : Nat) : Int)], 3, 60⟩, ⟨aw, fl ws, cw * 1, 33⟩] _ mixed_Dd (by kernel_rfl) (fun w hw => Hp.pickS hw (by apply Pick.e2; all_goals (repeat (first | exact Rem.here | exact Rem.all | exact Rem.hereS | apply Rem.there | apply Rem.thereS)))) ?_
      refine Dr.SW.r rfl (.inl rfl) rfl (by decide) (yr_fieldAddr rfl Try.underlying27 rfl rfl sz25_Dd (by decide) rfl) ?_
      refine Dr.SW.p rfl (.inl rfl) rfl (by decide) (yq_load rfl fb25_Dd rfl (by first | exact Sees.root (by assumption) | exact Sees.own (by (try simp only [List.append_assoc, List.cons_append, List.nil_append]); repeat (first | exact List.mem_cons_self | exact List.mem_append_left _ (by assumption) | apply List.mem_cons_of_mem | apply List.mem_append_right)) | exact Sees.root (hR _ (by omega)) | exact Sees.own (RowsIn.mem (by (try simp only [List.append_assoc, List.cons_append, List.nil_append]); repeat (first | exact RowsIn.here | exact RowsIn.last | apply RowsIn.there | apply RowsIn.thereS)) _ (by omega)) | exact Sees.own (WRowsIn.mem (by (try simp only [List.append_assoc, List.cons_append, List.nil_append]); repeat (first | exact WRowsIn.here | exact WRowsIn.last | apply WRowsIn.there | apply WRowsIn.thereS)) _ (by omega))) rfl) ?_
      refine Dr.SW.r rfl (.inl rfl) rfl (by decide) (yr_move rfl rfl) ?_
      refine Dr.SW.c rfl (.inl rfl) rfl (by decide) (yc_callfR rfl known18_Dd (.cons rfl (.cons rfl .nil)) (by apply Pick.one; repeat (first | exact Rem.here | exact Rem.all | exact Rem.hereS | apply Rem.there | apply Rem.thereS)) (c_pick (m := 17) hA hb (by omega) (by omega) (by omega) (by decide) (by decide))) ?_
      rintro ⟨⟨x42, s42⟩, hx42, hs42⟩
      dsimp only at hx42 hs42
      refine Dr.SW.r rfl (.inl rfl) rfl (by decide) (yr_int rfl rfl rfl (.inr (.inl ⟨rfl, wrap_in (by (try dsimp only); omega)⟩))) ?_
      refine Dr.SW.r rfl (.inl rfl) rfl (by decide) (yr_ofInt rfl Try.underlying2 Try.underlying33 rfl) ?_
      refine Dr.SW.r rfl (.inl rfl) rfl (by decide) (show YR _ _ _ (.float .f32 (w2w x42)) from (by unfold w2w; exact yr_float rfl (.inr (.inr (.inr rfl))) rfl rfl)) ?_
      refine Dr.SW.new1 rfl (.inl rfl) rfl (by decide) (yn_lit rfl Try.underlying25 elt33_Dd rfl (by decide) (.cons rfl .nil) (by first | (simp; done) | (simp [cn, cn1, cn0]; done)) rfl rfl rfl) ?_
      intro b46
      refine Dr.SW.c rfl (.inl rfl) rfl (by decide) (yc_appendz 1 rfl rfl Try.underlying25 elt33_Dd rfl rfl (Dr.UpdF.app (by repeat (first | exact UpdF.here | apply UpdF.there | apply UpdF.thereS))) (by first | exact Sees.root (by assumption) | exact Sees.own (by (try simp only [List.append_assoc, List.cons_append, List.nil_append]); repeat (first | exact List.mem_cons_self | exact List.mem_append_left _ (by assumption) | apply List.mem_cons_of_mem | apply List.mem_append_right)) | exact Sees.root (hR _ (by omega)) | exact Sees.own (RowsIn.mem (by (try simp only [List.append_assoc, List.cons_append, List.nil_append]); repeat (first | exact RowsIn.here | exact RowsIn.last | apply RowsIn.there | apply RowsIn.thereS)) _ (by omega)) | exact Sees.own (WRowsIn.mem (by (try simp only [List.append_assoc, List.cons_append, List.nil_append]); repeat (first | exact WRowsIn.here | exact WRowsIn.last | apply WRowsIn.there | apply WRowsIn.thereS)) _ (by omega))) rfl (by first | (rw [fl_length, Nat.mul_one]; done) | (rw [hd_length, Nat.mul_one]; done) | rw [hd_length] | rw [fl_length]) (by first | rfl | simp) (by first | rfl | exact fl_scal _ | exact hd_scal _ _) (by first | rfl | exact fl_scal _) (by omega) (by omega)) ?_
      rintro ⟨a47, c47⟩
      refine Dr.SW.r rfl (.inl rfl) rfl (by decide) (yr_fieldAddr rfl Try.underlying27 rfl rfl sz25_Dd (by decide) rfl) ?_
      refine Dr.SW.t rfl (.inl rfl) rfl (yc_store rfl sz25_Dd rfl rfl (by repeat (first | exact UpdF.here | apply UpdF.there | apply UpdF.thereS)) (.inl ⟨rfl, rfl⟩) rfl (by first | exact Nat.le_of_ble_eq_true rfl | simp) (by decide) rfl) ?_
      rintro ⟨⟩
      refine Dr.SW.done ?_
      refine Dr.eqO (by simp only [List.append_nil, List.append_assoc, List.cons_append, List.nil_append] <;> rfl) ?_
      refine VE.then_wp ?_
      refine Dr.V.drawR [(0, 5), (1, 5), (2, 5), (3, 3), (4, 5), (5, 5), (6, 5), (7, 1), (8, 3), (9, 5), (10, 4)] [] [⟨some ⟨q, 0, none⟩, [.slice a bs.length c, .int .i64 ((nn1 + 1 : Nat) : Int), .int .u64 ((s42 : Nat) : Int)], 3, 60⟩, ⟨a47, fl (ws ++ [w2w x42]), c47 * 1, 33⟩, ⟨ag, fl gs, cg * 1, 33⟩] _ mixed_Dd (by kernel_rfl) (fun w hw => by rw [← fl_snoc]; exact Hp.pickS hw (by apply Pick.e3x; all_goals (repeat (first | exact Rem.here | exact Rem.all | exact Rem.hereS | apply Rem.there | apply Rem.thereS)))) ?_
      refine Dr.SW.r rfl (.inl rfl) rfl (by decide) (yr_fieldAddr rfl Try.underlying27 rfl rfl sz25_Dd (by decide) rfl) ?_
      refine Dr.SW.p rfl (.inl rfl) rfl (by decide) (yq_load rfl fb25_Dd rfl (by first | exact Sees.root (by assumption) | exact Sees.own (by (try simp only [List.append_assoc, List.cons_append, List.nil_append]); repeat (first | exact List.mem_cons_self | exact List.mem_append_left _ (by assumption) | apply List.mem_cons_of_mem | apply List.mem_append_right)) | exact Sees.root (hR _ (by omega)) | exact Sees.own (RowsIn.mem (by (try simp only [List.append_assoc, List.cons_append, List.nil_append]); repeat (first | exact RowsIn.here | exact RowsIn.last | apply RowsIn.there | apply RowsIn.thereS)) _ (by omega)) | exact Sees.own (WRowsIn.mem (by (try simp only [List.append_assoc, List.cons_append, List.nil_append]); repeat (first | exact WRowsIn.here | exact WRowsIn.last | apply WRowsIn.there | apply WRowsIn.thereS)) _ (by omega))) rfl) ?_
      refine Dr.SW.r rfl (.inl rfl) rfl (by decide) (yr_move rfl rfl) ?_
      refine Dr.SW.c rfl (.inl rfl) rfl (by decide) (yc_callfR rfl known18_Dd (.cons rfl (.cons rfl .nil)) (by apply Pick.one; repeat (first | exact Rem.here | exact Rem.all | exact Rem.hereS | apply Rem.there | apply Rem.thereS)) (c_pick (m := 4) hA hb (by omega) (by omega) (by omega) (by decide) (by decide))) ?_
      rintro ⟨⟨x52, s52⟩, hx52, hs52⟩
      dsimp only at hx52 hs52
      refine Dr.SW.r rfl (.inl rfl) rfl (by decide) (yr_int (r := 1 + (x52 : Int)) rfl rfl rfl (.inl ⟨rfl, wrap_in (by (try dsimp only); omega)⟩)) ?_
      refine Dr.SW.r rfl (.inl rfl) rfl (by decide) (yr_ofInt rfl Try.underlying2 Try.underlying33 rfl) ?_
      refine Dr.SW.r rfl (.inl rfl) rfl (by decide) (show YR _ _ _ (.float .f32 (g2w x52)) from (by unfold g2w; exact yr_float rfl (.inr (.inr (.inr rfl))) rfl rfl)) ?_
      refine Dr.SW.new1 rfl (.inl rfl) rfl (by decide) (yn_lit rfl Try.underlying25 elt33_Dd rfl (by decide) (.cons rfl .nil) (by first | (simp; done) | (simp [cn, cn1, cn0]; done)) rfl rfl rfl) ?_
      intro b56
      refine Dr.SW.c rfl (.inl rfl) rfl (by decide) (yc_appendz 1 rfl rfl Try.underlying25 elt33_Dd rfl rfl (Dr.UpdF.app (by repeat (first | exact UpdF.here | apply UpdF.there | apply UpdF.thereS))) (by first | exact Sees.root (by assumption) | exact Sees.own (by (try simp only [List.append_assoc, List.cons_append, List.nil_append]); repeat (first | exact List.mem_cons_self | exact List.mem_append_left _ (by assumption) | apply List.mem_cons_of_mem | apply List.mem_append_right)) | exact Sees.root (hR _ (by omega)) | exact Sees.own (RowsIn.mem (by (try simp only [List.append_assoc, List.cons_append, List.nil_append]); repeat (first | exact RowsIn.here | exact RowsIn.last | apply RowsIn.there | apply RowsIn.thereS)) _ (by omega)) | exact Sees.own (WRowsIn.mem (by (try simp only [List.append_assoc, List.cons_append, List.nil_append]); repeat (first | exact WRowsIn.here | exact WRowsIn.last | apply WRowsIn.there | apply WRowsIn.thereS)) _ (by omega))) rfl (by first | (rw [fl_length, Nat.mul_one]; done) | (rw [hd_length, Nat.mul_one]; done) | rw [hd_length] | rw [fl_length]) (by first | rfl | simp) (by first | rfl | exact fl_scal _ | exact hd_scal _ _) (by first | rfl | exact fl_scal _) (by omega) (by omega)) ?_
      rintro ⟨a57, c57⟩
      refine Dr.SW.r rfl (.inl rfl) rfl (by decide) (yr_fieldAddr rfl Try.underlying27 rfl rfl sz25_Dd (by decide) rfl) ?_
      refine Dr.SW.t rfl (.inl rfl) rfl (yc_store rfl sz25_Dd rfl rfl (by repeat (first | exact UpdF.here | apply UpdF.there | apply UpdF.thereS)) (.inl ⟨rfl, rfl⟩) rfl (by first | exact Nat.le_of_ble_eq_true rfl | simp) (by decide) rfl) ?_
      rintro ⟨⟩
      refine Dr.SW.done ?_
      refine Dr.eqO (by simp only [List.append_nil, List.append_assoc, List.cons_append, List.nil_append] <;> rfl) ?_
      refine VE.block_normal ?_
      refine VE.then_wp ?_
      refine V.region ?_
      refine VL.r (.inl rfl) rfl (by decide) (yr_move rfl rfl) ?_
      refine VL.r (.inl rfl) rfl (by decide) (yr_int rfl rfl rfl (.inr (.inl ⟨rfl, wrap_in (by (try dsimp only); omega)⟩))) ?_
      refine VL.r (.inl rfl) rfl (by decide) (yr_assign rfl rfl) ?_
      refine VL.nil ?_
      refine VE.round (xss ++ [xs], upd f xss.length (ar, cr), a37, c37, ws ++ [w2w x42], a47, c47, gs ++ [g2w x52], a57, c57, nn1 + 1 + 1, s52) ?_ ?_ ?_ ?_ ?_
      · exact (.cons (congrArg (fun i => some (Value.int .i64 i)) (by rw [List.length_append]; show _ = (((1 + x13) - (xss.length + 1) : Nat) : Int); omega)) .nil)
      · exact (.cons rfl (.cons rfl (.cons rfl (.cons rfl .nil))))
      · exact (fun w hw => by
          dsimp only
          simp only [← hd_snoc _ _ (ar, cr), ← rents_snoc _ _ _ (ar, cr), ← fl_snoc gs, List.length_append, List.length_cons, List.length_nil, Nat.zero_add, List.append_assoc, List.cons_append, List.nil_append]
          exact hw.pick (by apply Pick.cons1; (· repeat (first | exact Rem.here | exact Rem.all | exact Rem.hereS | apply Rem.there | apply Rem.thereS)); apply Pick.cons1; (· repeat (first | exact Rem.here | exact Rem.all | exact Rem.hereS | apply Rem.there | apply Rem.thereS)); apply Pick.cons1; (· repeat (first | exact Rem.here | exact Rem.all | exact Rem.hereS | apply Rem.there | apply Rem.thereS)); apply Pick.cons1; (· repeat (first | exact Rem.here | exact Rem.all | exact Rem.hereS | apply Rem.there | apply Rem.thereS)); apply Pick.cons1; (· repeat (first | exact Rem.here | exact Rem.all | exact Rem.hereS | apply Rem.there | apply Rem.thereS)); apply Pick.cons1; (· repeat (first | exact Rem.here | exact Rem.all | exact Rem.hereS | apply Rem.there | apply Rem.thereS)); apply Pick.app1; (· repeat (first | exact Rem.here | exact Rem.all | exact Rem.hereS | apply Rem.there | apply Rem.thereS)); apply Pick.cons1; (· repeat (first | exact Rem.here | exact Rem.all | exact Rem.hereS | apply Rem.there | apply Rem.thereS)); apply Pick.last; repeat (first | exact Rem.here | exact Rem.all | exact Rem.hereS | apply Rem.there | apply Rem.thereS)))
      · dsimp only
        simp only [List.length_append, List.length_cons, List.length_nil, Nat.zero_add]
        exact ⟨by omega, mem_app hr9 (mem_one ⟨by omega, hx9⟩), ⟨by omega, by omega⟩, mem_app hW9 (mem_one ⟨x42, hx42, rfl⟩), mem_app hG9 (mem_one ⟨x52, hx52, rfl⟩), ⟨by omega, by omega⟩, hs52⟩
      · dsimp only; rw [List.length_append]; show (1 + x13) - (xss.length + 1) < (1 + x13) - xss.length; omega
  · skip
    replace h1 := ic_gtr' h1
    have hlM : xss.length = (1 + x13) := by omega
    refine V.exit ?_
    refine VE.then_exit ?_
    refine VE.then_exit ?_
    refine VE.block_here ?_
    refine VE.then_wp ?_
    refine V.seq ?_
    refine V.region ?_
    refine VL.q (.inl rfl) rfl (by decide) (yq_loadS rfl Try.underlying27 sz27_Dd rfl (by first | exact Sees.root (by assumption) | exact Sees.own (by repeat (first | exact List.mem_cons_self | exact List.mem_append_left _ (by assumption) | apply List.mem_cons_of_mem | apply List.mem_append_right)) | exact Sees.root (hR _ (by omega)) | exact Sees.own (RowsIn.mem (by repeat (first | exact RowsIn.here | exact RowsIn.last | apply RowsIn.there | apply RowsIn.thereS)) _ (by omega)) | exact Sees.own (WRowsIn.mem (by repeat (first | exact WRowsIn.here | exact WRowsIn.last | apply WRowsIn.there | apply WRowsIn.thereS)) _ (by omega))) rfl rfl rfl) ?_
    refine VL.s (.inl rfl) rfl (yc_store rfl sz27_Dd rfl rfl (by repeat (first | exact UpdF.here | apply UpdF.there | apply UpdF.thereS)) (.inr ⟨rfl, rfl⟩) rfl (by first | exact Nat.le_of_ble_eq_true rfl | simp) (by decide) rfl) ?_
    rintro ⟨⟩
    refine VL.nil ?_
    refine VE.then_wp ?_
    refine V.ret ?_
    refine retC rfl (rv_cellS rfl Try.underlying27 sz27_Dd (by first | exact Sees.root (by assumption) | exact Sees.own (by repeat (first | exact List.mem_cons_self | exact List.mem_append_left _ (by assumption) | apply List.mem_cons_of_mem | apply List.mem_append_right)) | exact Sees.root (hR _ (by omega)) | exact Sees.own (RowsIn.mem (by repeat (first | exact RowsIn.here | exact RowsIn.last | apply RowsIn.there | apply RowsIn.thereS)) _ (by omega)) | exact Sees.own (WRowsIn.mem (by repeat (first | exact WRowsIn.here | exact WRowsIn.last | apply WRowsIn.there | apply WRowsIn.thereS)) _ (by omega))) rfl rfl rfl) (by nofun) (fun w1 hw => ?_)
    refine ⟨⟨⟨(((ah, ch), f), (aw, cw), (ag, cg)), xss, ws, gs, (1 + x9), nn, sd⟩, ⟨by show 1 ≤ xss.length; omega, by show xss.length ≤ 10; omega, by show 1 ≤ (1 + x9); omega, by show (1 + x9) ≤ 3; omega, hr9, hw9, hg9, hW9, hG9⟩, ⟨by show n ≤ nn; omega, by show nn ≤ n + 60; omega⟩, hs9⟩, rfl, ?_⟩
    have h9 : Hp w0 (⟨some ⟨q, 0, none⟩, [.slice a bs.length c, .int .i64 ((nn : Nat) : Int), .int .u64 ((sd : Nat) : Int)], 3, 60⟩ :: ⟨ag, fl gs, cg * 1, 33⟩ :: ⟨aw, fl ws, cw * 1, 33⟩ :: ⟨ah, hd f xss, ch * 1, 25⟩ :: (rents 33 f xss ++ F)) w1 := hw.pick (by apply Pick.cons1; (· repeat (first | exact Rem.here | exact Rem.all | exact Rem.hereS | apply Rem.there | apply Rem.thereS)); apply Pick.cons1; (· repeat (first | exact Rem.here | exact Rem.all | exact Rem.hereS | apply Rem.there | apply Rem.thereS)); apply Pick.cons1; (· repeat (first | exact Rem.here | exact Rem.all | exact Rem.hereS | apply Rem.there | apply Rem.thereS)); apply Pick.cons1; (· repeat (first | exact Rem.here | exact Rem.all | exact Rem.hereS | apply Rem.there | apply Rem.thereS)); apply Pick.app1; (· repeat (first | exact Rem.here | exact Rem.all | exact Rem.hereS | apply Rem.there | apply Rem.thereS)); apply Pick.last; repeat (first | exact Rem.here | exact Rem.all | exact Rem.hereS | apply Rem.there | apply Rem.thereS))
    exact h9.perm' (show ((([⟨some ⟨q, 0, none⟩, [.slice a bs.length c, .int .i64 ((nn : Nat) : Int), .int .u64 ((sd : Nat) : Int)], 3, 60⟩, ⟨ag, fl gs, cg * 1, 33⟩, ⟨aw, fl ws, cw * 1, 33⟩, ⟨ah, hd f xss, ch * 1, 25⟩] : List Ent) ++ rents 33 f xss) ++ F).Perm (F ++ (([⟨some ⟨q, 0, none⟩, [.slice a bs.length c, .int .i64 ((nn : Nat) : Int), .int .u64 ((sd : Nat) : Int)], 3, 60⟩, ⟨ag, fl gs, cg * 1, 33⟩, ⟨aw, fl ws, cw * 1, 33⟩, ⟨ah, hd f xss, ch * 1, 25⟩] : List Ent) ++ rents 33 f xss)) from List.perm_append_comm)

theorem c_b10Design {w : World} {a : Option Addr} {c : Nat} {bs : List Int} (hA : Cl w a (bl bs)) (hb : Bytes bs) (hl : bs.length ≤ 2000000) : New Try.prog 5 [.slice a bs.length c] w (fun x : {x : DX // DDok x.xss x.ws x.gs x.n} => x.1.v) (fun x => ⟨x.1.p.2.2.1, fl (x.1.gs), x.1.p.2.2.2 * 1, 33⟩ :: ⟨x.1.p.2.1.1, fl (x.1.ws), x.1.p.2.1.2 * 1, 33⟩ :: ⟨x.1.p.1.1.1, hd x.1.p.1.2 (x.1.xss), x.1.p.1.1.2 * 1, 25⟩ :: rents 33 x.1.p.1.2 (x.1.xss)) := by
  refine New.enter Try.func5 rfl Try.ntmps5 (Nat.le_of_ble_eq_true rfl) ?_
  refine V.seq ?_
  refine V.region ?_
  refine VL.new1 (.inl rfl) rfl (by decide) (yn_alloc rfl zero27_Dd rfl) ?_
  intro b2
  refine VL.nil ?_
  refine VE.then_wp ?_
  refine V.seq ?_
  refine V.region ?_
  refine VL.r (.inl rfl) rfl (by decide) (yr_move rfl rfl) ?_
  refine VL.new1 (.inl rfl) rfl (by decide) (yn_callf rfl known16_Dd (.cons rfl .nil) (fun w hw => c_from)) ?_
  intro b5
  refine VL.r (.inl rfl) rfl (by decide) (yr_assign rfl rfl) ?_
  refine VL.nil ?_
  refine VE.then_wp ?_
  refine V.seq ?_
  refine V.region ?_
  refine VL.r (.inl rfl) rfl (by decide) (yr_move rfl rfl) ?_
  refine VL.c (.inl rfl) rfl (by decide) (yc_callf rfl known17_Dd (.cons rfl .nil) (by apply Pick.one; repeat (first | exact Rem.here | apply Rem.there | apply Rem.thereS)) (c_drawOk (n := 0) (sd := 0) hA hb hl (by decide) (by decide))) ?_
  rintro ⟨⟨⟨⟨⟨a7, c7⟩, f7⟩, ⟨p7, q7⟩, ⟨r7, s7⟩⟩, xss7, ws7, gs7, n7, at7, sd7⟩, hd7, hat7, hsd7⟩
  dsimp only at hd7 hat7 hsd7
  refine VL.s (.inl rfl) rfl (yc_store rfl sz27_Dd rfl rfl (by repeat (first | exact UpdF.here | apply UpdF.there | apply UpdF.thereS)) (.inr ⟨rfl, rfl⟩) rfl (by first | exact Nat.le_of_ble_eq_true rfl | simp) (by decide) rfl) ?_
  rintro ⟨⟩
  refine VL.nil ?_
  refine VE.then_wp ?_
  refine V.ret ?_
  refine retC rfl (rv_cellS rfl Try.underlying27 sz27_Dd (by first | exact Sees.root (by assumption) | exact Sees.own (by repeat (first | exact List.mem_cons_self | exact List.mem_append_left _ (by assumption) | apply List.mem_cons_of_mem | apply List.mem_append_right)) | exact Sees.root (hR _ (by omega)) | exact Sees.own (RowsIn.mem (by repeat (first | exact RowsIn.here | exact RowsIn.last | apply RowsIn.there | apply RowsIn.thereS)) _ (by omega)) | exact Sees.own (WRowsIn.mem (by repeat (first | exact WRowsIn.here | exact WRowsIn.last | apply WRowsIn.there | apply WRowsIn.thereS)) _ (by omega))) rfl rfl rfl) (by nofun) (fun w1 hw => ?_)
  exact ⟨⟨⟨(((a7, c7), f7), (p7, q7), (r7, s7)), xss7, ws7, gs7, n7, at7, sd7⟩, hd7⟩, rfl, (hw.pick (by apply Pick.cons1; (· repeat (first | exact Rem.here | exact Rem.all | exact Rem.hereS | apply Rem.there | apply Rem.thereS)); apply Pick.cons1; (· repeat (first | exact Rem.here | exact Rem.all | exact Rem.hereS | apply Rem.there | apply Rem.thereS)); apply Pick.cons1; (· repeat (first | exact Rem.here | exact Rem.all | exact Rem.hereS | apply Rem.there | apply Rem.thereS)); apply Pick.last; repeat (first | exact Rem.here | exact Rem.all | exact Rem.hereS | apply Rem.there | apply Rem.thereS))).outs (List.Sublist.refl _)⟩

theorem c_b10X {w : World} {a : Option Addr} {c m : Nat} {bs : List Int} (hA : Cl w a (bl bs)) (hb : Bytes bs) (hl : bs.length ≤ 2000000) (hm : m ≤ 1000) : New Try.prog 6 [.slice a bs.length c, .int .i64 (m : Int)] w (fun x : {x : (Option Addr × Nat) × List Nat // x.2.length = m ∧ ∀ y ∈ x.2, Q17 y} => .slice x.1.1.1 x.1.2.length x.1.1.2) (fun x => [⟨x.1.1.1, fl x.1.2, x.1.1.2 * 1, 33⟩]) := by
  refine New.enter Try.func6 rfl Try.ntmps6 (Nat.le_of_ble_eq_true rfl) ?_
  refine V.seq ?_
  refine V.region ?_
  refine VL.r (.inl rfl) rfl (by decide) (yr_assign (u := .slice none 0 0) rfl rfl) ?_
  refine VL.nil ?_
  refine VE.then_wp ?_
  refine V.seq ?_
  refine V.region ?_
  refine VL.r (.inl rfl) rfl (by decide) (yr_move rfl rfl) ?_
  refine VL.new1 (.inl rfl) rfl (by decide) (yn_callf rfl known16_Dd (.cons rfl .nil) (fun w hw => c_from)) ?_
  intro b8
  refine VL.r (.inl rfl) rfl (by decide) (yr_assign rfl rfl) ?_
  refine VL.nil ?_
  refine VE.then_wp ?_
  refine V.seq ?_
  refine V.region ?_
  refine VL.new1 (.inl rfl) rfl (by decide) (yn_lit rfl Try.underlying25 elt33_Dd rfl (by decide) .nil (by first | (simp; done) | (simp [cn, cn1, cn0]; done)) rfl rfl rfl) ?_
  intro b9
  refine VL.r (.inl rfl) rfl (by decide) (yr_assign rfl rfl) ?_
  refine VL.nil ?_
  refine VE.then_wp ?_
  refine V.seq ?_
  refine V.block ?_
  refine V.loopc (G := (List Nat) × (Option Addr) × Nat × Nat × Nat) [(5, _)] (fun ⟨xs, ar, cr, nn, sd⟩ => xs.length ≤ m ∧ (∀ y ∈ xs, Q17 y) ∧ nn ≤ xs.length ∧ sd < 18446744073709551616) (fun ⟨xs, ar, cr, nn, sd⟩ => [⟨ar, fl xs, cr * 1, 33⟩, ⟨some ⟨b8, 0, none⟩, [.slice a bs.length c, .int .i64 ((nn : Nat) : Int), .int .u64 ((sd : Nat) : Int)], 3, 60⟩]) (fun ⟨xs, ar, cr, nn, sd⟩ => [(1, .int .i64 ((m - xs.length : Nat) : Int)), (6, .slice ar xs.length cr)]) (fun ⟨xs, ar, cr, nn, sd⟩ => m - xs.length) ([], some ⟨b9, 0, none⟩, 0, 0, 0) (.cons rfl .nil) (.cons rfl (.cons rfl .nil)) ?_ ?_ ?_
  · exact (fun w hw => by dsimp only; rw [fl_nil]; exact hw.pick (by apply Pick.cons1; (· repeat (first | exact Rem.here | exact Rem.all | exact Rem.hereS | apply Rem.there | apply Rem.thereS)); apply Pick.cons1; (· repeat (first | exact Rem.here | exact Rem.all | exact Rem.hereS | apply Rem.there | apply Rem.thereS)); exact Pick.nil))
  · exact (by exact ⟨Nat.zero_le _, fun y h => (by cases h), Nat.le_refl _, by decide⟩)
  rintro ⟨xs, ar, cr, nn, sd⟩ ⟨hm9, hx9, hn8, hs8⟩
  show V _ _ _ [⟨ar, fl xs, cr * 1, 33⟩, ⟨some ⟨b8, 0, none⟩, [.slice a bs.length c, .int .i64 ((nn : Nat) : Int), .int .u64 ((sd : Nat) : Int)], 3, 60⟩] ([(1, .int .i64 ((m - xs.length : Nat) : Int)), (6, .slice ar xs.length cr)] ++ [(5, _)]) _ _
  refine V.seq ?_
  refine V.seq ?_
  refine V.region ?_
  refine VL.r (.inl rfl) rfl (by decide) (yr_move rfl rfl) ?_
  refine VL.r (.inl rfl) rfl (by decide) (yr_icmp rfl (.inr (.inr (.inr (.inr (.inl rfl))))) rfl rfl) ?_
  refine VL.nil ?_
  refine VE.then_wp ?_
  refine V.cond rfl (fun h1 => ?_) (fun h1 => ?_)
  · skip
    replace h1 := ic_gtr h1
    refine V.skip ?_
    refine VE.then_wp ?_
    refine V.seq ?_
    refine V.block ?_
    refine V.region ?_
    refine VL.r (.inl rfl) rfl (by decide) (yr_move rfl rfl) ?_
    refine VL.r (.inl rfl) rfl (by decide) (yr_move rfl rfl) ?_
    refine VL.c (.inl rfl) rfl (by decide) (yc_callf rfl known18_Dd (.cons rfl (.cons rfl .nil)) (by apply Pick.one; repeat (first | exact Rem.here | apply Rem.there | apply Rem.thereS)) (c_pick (m := 17) hA hb (by omega) (by omega) (by omega) (by decide) (by decide))) ?_
    rintro ⟨⟨x16, s16⟩, hx16, hs16⟩
    dsimp only at hx16 hs16
    refine VL.r (.inl rfl) rfl (by decide) (yr_int rfl rfl rfl (.inr (.inl ⟨rfl, wrap_in (by (try dsimp only); omega)⟩))) ?_
    refine VL.r (.inl rfl) rfl (by decide) (yr_ofInt rfl Try.underlying2 Try.underlying33 rfl) ?_
    refine VL.r (.inl rfl) rfl (by decide) (show YR _ _ _ (.float .f32 (qw x16)) from (by unfold qw; exact yr_float rfl (.inr (.inr (.inr rfl))) rfl rfl)) ?_
    refine VL.new1 (.inl rfl) rfl (by decide) (yn_lit rfl Try.underlying25 elt33_Dd rfl (by decide) (.cons rfl .nil) (by first | (simp; done) | (simp [cn, cn1, cn0]; done)) rfl rfl rfl) ?_
    intro b20
    refine VL.c (.inl rfl) rfl (by decide) (yc_appendz 1 rfl rfl Try.underlying25 elt33_Dd rfl rfl (by repeat (first | exact UpdF.here | apply UpdF.there | apply UpdF.thereS)) (by first | exact Sees.root (by assumption) | exact Sees.own (by repeat (first | exact List.mem_cons_self | exact List.mem_append_left _ (by assumption) | apply List.mem_cons_of_mem | apply List.mem_append_right)) | exact Sees.root (hR _ (by omega)) | exact Sees.own (RowsIn.mem (by repeat (first | exact RowsIn.here | exact RowsIn.last | apply RowsIn.there | apply RowsIn.thereS)) _ (by omega)) | exact Sees.own (WRowsIn.mem (by repeat (first | exact WRowsIn.here | exact WRowsIn.last | apply WRowsIn.there | apply WRowsIn.thereS)) _ (by omega))) rfl (by rw [fl_length, Nat.mul_one]) rfl (by first | rfl | exact fl_scal _) rfl (by omega) (by omega)) ?_
    rintro ⟨a21, c21⟩
    refine VL.r (.inl rfl) rfl (by decide) (yr_assign rfl rfl) ?_
    refine VL.nil ?_
    refine VE.block_normal ?_
    refine VE.then_wp ?_
    refine V.region ?_
    refine VL.r (.inl rfl) rfl (by decide) (yr_move rfl rfl) ?_
    refine VL.r (.inl rfl) rfl (by decide) (yr_int rfl rfl rfl (.inr (.inl ⟨rfl, wrap_in (by (try dsimp only); omega)⟩))) ?_
    refine VL.r (.inl rfl) rfl (by decide) (yr_assign rfl rfl) ?_
    refine VL.nil ?_
    refine VE.round (xs ++ [qw x16], a21, c21, nn + 1, s16) ?_ ?_ ?_ ?_ ?_
    · exact (.cons (congrArg (fun i => some (Value.int .i64 i)) (by rw [List.length_append]; show _ = ((m - (xs.length + 1) : Nat) : Int); omega)) (.cons (congrArg (fun n => some (Value.slice _ n _)) (by rw [List.length_append]; rfl)) .nil))
    · exact (.cons rfl .nil)
    · exact (fun w hw => by dsimp only; rw [← fl_snoc]; exact hw.pick (by apply Pick.cons1; (· repeat (first | exact Rem.here | exact Rem.all | exact Rem.hereS | apply Rem.there | apply Rem.thereS)); apply Pick.cons1; (· repeat (first | exact Rem.here | exact Rem.all | exact Rem.hereS | apply Rem.there | apply Rem.thereS)); exact Pick.nil))
    · dsimp only
      simp only [List.length_append, List.length_cons, List.length_nil, Nat.zero_add]
      exact ⟨by omega, mem_app hx9 (mem_one ⟨x16, hx16, rfl⟩), by omega, hs16⟩
    · dsimp only; rw [List.length_append]; show m - (xs.length + 1) < m - xs.length; omega
  · skip
    replace h1 := ic_gtr' h1
    refine V.exit ?_
    refine VE.then_exit ?_
    refine VE.then_exit ?_
    refine VE.block_here ?_
    refine VE.then_wp ?_
    refine V.seq ?_
    refine V.region ?_
    refine VL.r (.inl rfl) rfl (by decide) (yr_move rfl rfl) ?_
    refine VL.r (.inl rfl) rfl (by decide) (yr_assign rfl rfl) ?_
    refine VL.nil ?_
    refine VE.then_wp ?_
    refine V.ret ?_
    refine ret1 rfl rfl (fun w1 hw => ?_)
    exact ⟨⟨((ar, cr), xs), by show xs.length = m; omega, hx9⟩, rfl, (hw.pick (by apply Pick.cons1; (· repeat (first | exact Rem.here | exact Rem.all | exact Rem.hereS | apply Rem.there | apply Rem.thereS)); exact Pick.nil)).outs (List.Sublist.refl _)⟩

theorem c_b10Long {w : World} {a b : Option Addr} {c d n m : Nat} : Pure Try.prog 4 [.slice a n c, .slice b m d] w (.bool (decide (1048576 < n) || decide (1048576 < m))) := by
  refine Pure.enter Try.func4 rfl Try.ntmps4 (Nat.le_of_ble_eq_true rfl) ?_
  refine V.seq ?_
  refine V.region ?_
  refine VL.r (.inl rfl) rfl (by decide) (yr_assign (u := .bool false) rfl rfl) ?_
  refine VL.nil ?_
  refine VE.then_wp ?_
  refine V.seq ?_
  refine V.region ?_
  refine VL.r (.inl rfl) rfl (by decide) (yr_move rfl rfl) ?_
  refine VL.r (.inl rfl) rfl (by decide) (yr_len rfl Try.underlying22 rfl) ?_
  refine VL.r (.inl rfl) rfl (by decide) (yr_icmp rfl (.inr (.inr (.inr (.inr (.inl rfl))))) rfl rfl) ?_
  refine VL.r (.inl rfl) rfl (by decide) (yr_move rfl rfl) ?_
  refine VX.split 8 _ rfl (fun h1 => ?_) (fun h1 => ?_)
  · skip
    replace h1 := ic_gtr h1
    refine VL.no rfl rfl rfl rfl rfl (by decide) ?_
    refine VL.no rfl rfl rfl rfl rfl (by decide) ?_
    refine VL.no rfl rfl rfl rfl rfl (by decide) ?_
    refine VL.r (.inl rfl) rfl (by decide) (yr_pick_t (u := .bool true) rfl rfl rfl) ?_
    refine VL.r (.inl rfl) rfl (by decide) (yr_assign rfl rfl) ?_
    refine VL.nil ?_
    refine VE.then_wp ?_
    refine V.ret ?_
    refine ret1 rfl rfl (fun w1 hw => ?_)
    first
      | exact ⟨congrArg Value.bool (by rw [decide_eq_true (show 1048576 < n by omega)]; rfl), hw.below⟩
      | exact ⟨congrArg Value.bool (by rw [decide_eq_false (show ¬ 1048576 < n by omega), Bool.false_or]; exact decide_eq_decide.2 (by omega)), hw.below⟩
  · skip
    replace h1 := ic_gtr' h1
    refine VL.r (.inr ⟨_, _, _, rfl, rfl, rfl⟩) rfl (by decide) (yr_move rfl rfl) ?_
    refine VL.r (.inr ⟨_, _, _, rfl, rfl, rfl⟩) rfl (by decide) (yr_len rfl Try.underlying22 rfl) ?_
    refine VL.r (.inr ⟨_, _, _, rfl, rfl, rfl⟩) rfl (by decide) (yr_icmp rfl (.inr (.inr (.inr (.inr (.inl rfl))))) rfl rfl) ?_
    refine VL.r (.inl rfl) rfl (by decide) (yr_pick_f rfl rfl rfl) ?_
    refine VL.r (.inl rfl) rfl (by decide) (yr_assign rfl rfl) ?_
    refine VL.nil ?_
    refine VE.then_wp ?_
    refine V.ret ?_
    refine ret1 rfl rfl (fun w1 hw => ?_)
    first
      | exact ⟨congrArg Value.bool (by rw [decide_eq_true (show 1048576 < n by omega)]; rfl), hw.below⟩
      | exact ⟨congrArg Value.bool (by rw [decide_eq_false (show ¬ 1048576 < n by omega), Bool.false_or]; exact decide_eq_decide.2 (by omega)), hw.below⟩

theorem c_b10At {w : World} {a : Option Addr} {c k m : Nat} {bs : List Int} (hA : Cl w a (bl bs)) (hb : Bytes bs) (hl : bs.length ≤ 2000000) (hm : 1 ≤ m) (hk : k ≤ 100000) : New Try.prog 7 [.slice a bs.length c, .int .i64 (k : Int), .int .i64 (m : Int)] w (fun x : {x : Nat // x < m} => .int .i64 ((x.1 : Nat) : Int)) (fun _ => []) := by
  refine New.enter Try.func7 rfl Try.ntmps7 (Nat.le_of_ble_eq_true rfl) ?_
  refine V.seq ?_
  refine V.region ?_
  refine VL.r (.inl rfl) rfl (by decide) (yr_assign (u := .int .i64 0) rfl rfl) ?_
  refine VL.nil ?_
  refine VE.then_wp ?_
  refine V.seq ?_
  refine V.seq ?_
  refine V.region ?_
  refine VL.r (.inl rfl) rfl (by decide) (yr_move rfl rfl) ?_
  refine VL.r (.inl rfl) rfl (by decide) (yr_icmp rfl (.inr (.inr (.inr (.inl rfl)))) rfl rfl) ?_
  refine VL.nil ?_
  refine VE.then_wp ?_
  refine V.cond rfl (fun h1 => ?_) (fun h1 => ?_)
  · skip
    replace h1 := ic_leq h1
    refine V.seq ?_
    refine V.region ?_
    refine VL.r (.inl rfl) rfl (by decide) (yr_assign (u := .int .i64 0) rfl rfl) ?_
    refine VL.nil ?_
    refine VE.then_wp ?_
    refine V.ret ?_
    refine VE.then_ret ?_
    refine ret1 rfl rfl (fun w1 hw => ?_)
    first
      | exact ⟨⟨0, by omega⟩, rfl, hw.below, (fun _ h => by cases h), List.Pairwise.nil⟩
      | exact ⟨⟨_ % m, Nat.mod_lt _ (by omega)⟩, rfl, hw.below, (fun _ h => by cases h), List.Pairwise.nil⟩
  · skip
    replace h1 := ic_leq' h1
    refine V.skip ?_
    refine VE.then_wp ?_
    refine V.seq ?_
    refine V.seq ?_
    refine V.region ?_
    refine VL.r (.inl rfl) rfl (by decide) (yr_move rfl rfl) ?_
    refine VL.r (.inl rfl) rfl (by decide) (yr_move rfl rfl) ?_
    refine VL.r (.inl rfl) rfl (by decide) (yr_len rfl Try.underlying22 rfl) ?_
    refine VL.r (.inl rfl) rfl (by decide) (yr_icmp rfl (.inr (.inr (.inl rfl))) rfl rfl) ?_
    refine VL.nil ?_
    refine VE.then_wp ?_
    refine V.cond rfl (fun h2 => ?_) (fun h2 => ?_)
    · skip
      replace h2 := ic_lss h2
      have hbn := byte_get hb (show k < bs.length by omega)
      refine V.seq ?_
      refine V.region ?_
      refine VL.r (.inl rfl) rfl (by decide) (yr_move rfl rfl) ?_
      refine VL.r (.inl rfl) rfl (by decide) (yr_move rfl rfl) ?_
      refine VL.q (.inl rfl) rfl (by decide) (yq_idx (k := k) rfl Try.underlying22 sz5_Dd rfl rfl (by first | exact Sees.root (by assumption) | exact Sees.own (by repeat (first | exact List.mem_cons_self | exact List.mem_append_left _ (by assumption) | apply List.mem_cons_of_mem | apply List.mem_append_right)) | exact Sees.root (hR _ (by omega)) | exact Sees.own (RowsIn.mem (by repeat (first | exact RowsIn.here | exact RowsIn.last | apply RowsIn.there | apply RowsIn.thereS)) _ (by omega)) | exact Sees.own (WRowsIn.mem (by repeat (first | exact WRowsIn.here | exact WRowsIn.last | apply WRowsIn.there | apply WRowsIn.thereS)) _ (by omega))) (by first | rfl | omega | (push_cast; rfl) | (push_cast; omega) | exact tmod_nat _ _) (by exact bl_length _) (by omega)) ?_
      refine VL.q (.inl rfl) rfl (by decide) (yq_load (u := .int .u8 (bs.getD k 0)) rfl fb5_Dd rfl (by first | exact Sees.root (by assumption) | exact Sees.own (by repeat (first | exact List.mem_cons_self | exact List.mem_append_left _ (by assumption) | apply List.mem_cons_of_mem | apply List.mem_append_right)) | exact Sees.root (hR _ (by omega)) | exact Sees.own (RowsIn.mem (by repeat (first | exact RowsIn.here | exact RowsIn.last | apply RowsIn.there | apply RowsIn.thereS)) _ (by omega)) | exact Sees.own (WRowsIn.mem (by repeat (first | exact WRowsIn.here | exact WRowsIn.last | apply WRowsIn.there | apply WRowsIn.thereS)) _ (by omega))) (bl_get (by omega))) ?_
      refine VL.r (.inl rfl) rfl (by decide) (yr_intConv (r := bs.getD k 0) rfl Try.underlying5 Try.underlying2 rfl (wrap_in (by omega))) ?_
      refine VL.r (.inl rfl) rfl (by decide) (yr_move rfl rfl) ?_
      refine VL.r (.inl rfl) rfl (by decide) (yr_remN (bs.getD k 0).toNat m rfl rfl rfl (by rw [Int.toNat_of_nonneg hbn.1]) rfl (by omega)) ?_
      refine VL.r (.inl rfl) rfl (by decide) (yr_assign rfl rfl) ?_
      refine VL.nil ?_
      refine VE.then_wp ?_
      refine V.ret ?_
      refine VE.then_ret ?_
      refine ret1 rfl rfl (fun w1 hw => ?_)
      first
        | exact ⟨⟨0, by omega⟩, rfl, hw.below, (fun _ h => by cases h), List.Pairwise.nil⟩
        | exact ⟨⟨_ % m, Nat.mod_lt _ (by omega)⟩, rfl, hw.below, (fun _ h => by cases h), List.Pairwise.nil⟩
    · skip
      replace h2 := ic_lss' h2
      refine V.skip ?_
      refine VE.then_wp ?_
      refine V.seq ?_
      refine V.region ?_
      refine VL.r (.inl rfl) rfl (by decide) (yr_move rfl rfl) ?_
      refine VL.r (.inl rfl) rfl (by decide) (yr_mulN k 37 rfl rfl rfl rfl rfl (by omega)) ?_
      refine VL.r (.inl rfl) rfl (by decide) (yr_addN (k * 37 + 11) rfl rfl rfl (by push_cast; rfl) (by omega)) ?_
      refine VL.r (.inl rfl) rfl (by decide) (yr_move rfl rfl) ?_
      refine VL.r (.inl rfl) rfl (by decide) (yr_remN (k * 37 + 11) m rfl rfl rfl rfl rfl (by omega)) ?_
      refine VL.r (.inl rfl) rfl (by decide) (yr_assign rfl rfl) ?_
      refine VL.nil ?_
      refine VE.then_wp ?_
      refine V.ret ?_
      refine ret1 rfl rfl (fun w1 hw => ?_)
      first
        | exact ⟨⟨0, by omega⟩, rfl, hw.below, (fun _ h => by cases h), List.Pairwise.nil⟩
        | exact ⟨⟨_ % m, Nat.mod_lt _ (by omega)⟩, rfl, hw.below, (fun _ h => by cases h), List.Pairwise.nil⟩

end Go.Proofs.Ytalimcjmaoapkaa


namespace Go.Proofs.Ytalimcjmaoapkaa
open Go.RowKit
set_option linter.unusedVariables false
set_option linter.unusedSimpArgs false
set_option maxRecDepth 20000

theorem sz33_Rows : (Try.prog.info? 33).map (·.size) = some 1 := by kernel_rfl
theorem fb33_Rows : flatB Try.prog 33 = true := by kernel_rfl
theorem known49_Rows : Known Try.prog 49 := Known.mk' Try.func49 (by kernel_rfl)
theorem sz25_Rows : (Try.prog.info? 25).map (·.size) = some 1 := by kernel_rfl
theorem fb25_Rows : flatB Try.prog 25 = true := by kernel_rfl
theorem known43_Rows : Known Try.prog 43 := Known.mk' Try.func43 (by kernel_rfl)
theorem known26_Rows : Known Try.prog 26 := Known.mk' Try.func26 (by kernel_rfl)
theorem known45_Rows : Known Try.prog 45 := Known.mk' Try.func45 (by kernel_rfl)
theorem known44_Rows : Known Try.prog 44 := Known.mk' Try.func44 (by kernel_rfl)
theorem known46_Rows : Known Try.prog 46 := Known.mk' Try.func46 (by kernel_rfl)

theorem c_idxF {w : World} {a : Option Addr} {c : Nat} {xs : List Nat} {g : FuncId} {cs : Array Value} {p : Nat → Bool} (hA : Cl w a (fl xs)) (hg : Known Try.prog g) (hF : ∀ w', Below w.heap.size w w' → ∀ k, k < xs.length → Pure Try.prog g ([.float .f32 (xs.getD k 0)] ++ cs.toList.map cn) w' (.bool (p k))) (hn : xs.length ≤ 1050000) : Pure Try.prog 49 [.slice a xs.length c, .func (.func g) #[] cs] w (.int .i64 (idxI p xs.length)) := by
  refine Pure.enter Try.func49 rfl Try.ntmps49 (Nat.le_of_ble_eq_true rfl) ?_
  refine V.seq ?_
  refine V.region ?_
  refine VL.r (.inl rfl) rfl (by decide) (yr_assign (u := .int .i64 0) rfl rfl) ?_
  refine VL.nil ?_
  refine VE.then_wp ?_
  refine V.seq ?_
  refine V.seq ?_
  refine V.region ?_
  refine VL.r (.inl rfl) rfl (by decide) (yr_move rfl rfl) ?_
  refine VL.r (.inl rfl) rfl (by decide) (yr_len rfl Try.underlying25 rfl) ?_
  refine VL.r (.inl rfl) rfl (by decide) (yr_move (u := .int .i64 0) rfl rfl) ?_
  refine VL.nil ?_
  refine VE.then_wp ?_
  refine V.block ?_
  refine V.loops (G := Nat) [(0, _), (1, _), (7, _)] (fun (k : Nat) => k ≤ xs.length ∧ ∀ j, j < k → p j = false) (fun (k : Nat) => [(8, .int .i64 (k : Int))]) (fun (k : Nat) => xs.length - k) 0 (.cons rfl (.cons rfl (.cons rfl .nil))) (.cons rfl .nil) ?_ ?_
  · exact (by exact ⟨by omega, fun j h => by omega⟩)
  rintro k ⟨hk, hI⟩
  show V _ _ _ _ ([(8, .int .i64 (k : Int))] ++ [(0, _), (1, _), (7, _)]) _ _
  refine V.seq ?_
  refine V.region ?_
  refine VL.r (.inl rfl) rfl (by decide) (yr_icmp rfl (.inr (.inr (.inl rfl))) rfl rfl) ?_
  refine VL.nil ?_
  refine VE.then_wp ?_
  refine V.seq ?_
  refine V.cond rfl (fun h1 => ?_) (fun h1 => ?_)
  · skip
    replace h1 := ic_lss h1
    refine V.skip ?_
    refine VE.then_wp ?_
    refine V.seq ?_
    refine V.block ?_
    refine V.seq ?_
    refine V.region ?_
    refine VL.r (.inl rfl) rfl (by decide) (yr_move rfl rfl) ?_
    refine VL.r (.inl rfl) rfl (by decide) (yr_assign rfl rfl) ?_
    refine VL.nil ?_
    refine VE.then_wp ?_
    refine V.seq ?_
    refine V.region ?_
    refine VL.r (.inl rfl) rfl (by decide) (yr_move rfl rfl) ?_
    refine VL.r (.inl rfl) rfl (by decide) (yr_move rfl rfl) ?_
    refine VL.r (.inl rfl) rfl (by decide) (yr_move rfl rfl) ?_
    refine VL.q (.inl rfl) rfl (by decide) (yq_idx (k := k) rfl Try.underlying25 sz33_Rows rfl rfl (by first | exact Sees.root (by assumption) | exact Sees.own (by repeat (first | exact List.mem_cons_self | exact List.mem_append_left _ (by assumption) | apply List.mem_cons_of_mem | apply List.mem_append_right)) | exact Sees.root (hR _ (by omega)) | exact Sees.own (RowsIn.mem (by repeat (first | exact RowsIn.here | exact RowsIn.last | apply RowsIn.there | apply RowsIn.thereS)) _ (by omega)) | exact Sees.own (WRowsIn.mem (by repeat (first | exact WRowsIn.here | exact WRowsIn.last | apply WRowsIn.there | apply WRowsIn.thereS)) _ (by omega))) (by first | rfl | omega | (push_cast; rfl) | (push_cast; omega) | exact tmod_nat _ _) (by exact fl_length _) (by omega)) ?_
    refine VL.q (.inl rfl) rfl (by decide) (yq_loadF rfl fb33_Rows rfl (by first | exact Sees.root (by assumption) | exact Sees.own (by repeat (first | exact List.mem_cons_self | exact List.mem_append_left _ (by assumption) | apply List.mem_cons_of_mem | apply List.mem_append_right)) | exact Sees.root (hR _ (by omega)) | exact Sees.own (RowsIn.mem (by repeat (first | exact RowsIn.here | exact RowsIn.last | apply RowsIn.there | apply RowsIn.thereS)) _ (by omega)) | exact Sees.own (WRowsIn.mem (by repeat (first | exact WRowsIn.here | exact WRowsIn.last | apply WRowsIn.there | apply WRowsIn.thereS)) _ (by omega))) (by omega)) ?_
    refine VL.q (.inl rfl) rfl (by decide) (yq_call rfl hg rfl (.cons rfl .nil) (fun w hw => hF w hw.below k (by omega))) ?_
    refine VL.nil ?_
    refine VE.then_wp ?_
    refine V.cond rfl (fun h2 => ?_) (fun h2 => ?_)
    · skip
      refine V.seq ?_
      refine V.region ?_
      refine VL.r (.inl rfl) rfl (by decide) (yr_move rfl rfl) ?_
      refine VL.r (.inl rfl) rfl (by decide) (yr_assign rfl rfl) ?_
      refine VL.nil ?_
      refine VE.then_wp ?_
      refine V.ret ?_
      refine VE.block_ret ?_
      refine VE.then_ret ?_
      refine VE.then_ret ?_
      refine VE.block_ret ?_
      refine VE.then_ret ?_
      refine ret1 rfl rfl (fun w1 hw => ?_)
      exact ⟨by rw [idxI_of hI (by assumption) (by omega)], hw.below⟩
    · skip
      refine V.skip ?_
      refine VE.block_normal ?_
      refine VE.then_wp ?_
      refine V.region ?_
      refine VL.r (.inl rfl) rfl (by decide) (yr_int rfl rfl rfl (.inl ⟨rfl, wrap_in (by omega)⟩)) ?_
      refine VL.r (.inl rfl) rfl (by decide) (yr_move rfl rfl) ?_
      refine VL.nil ?_
      refine VE.round (k + 1) ?_ ?_ ?_ ?_ ?_
      · exact (.cons rfl .nil)
      · exact (.cons rfl (.cons rfl (.cons rfl .nil)))
      · exact (fun w hw => hw)
      · exact ⟨by omega, fun j hj => by rcases Nat.lt_or_ge j k with h | h; exact hI j h; obtain rfl : j = k := (by omega); assumption⟩
      · (try dsimp only); omega
  · skip
    replace h1 := ic_lss' h1
    refine V.exit ?_
    refine VE.then_exit ?_
    refine VE.then_exit ?_
    refine VE.block_here ?_
    refine VE.then_wp ?_
    refine V.seq ?_
    refine V.region ?_
    refine VL.r (.inl rfl) rfl (by decide) (yr_assign (u := .int .i64 (-1)) rfl rfl) ?_
    refine VL.nil ?_
    refine VE.then_wp ?_
    refine V.ret ?_
    refine ret1 rfl rfl (fun w1 hw => ?_)
    obtain rfl : k = xs.length := by omega
    exact ⟨by rw [idxI_no hI], hw.below⟩

theorem c_hasF {w : World} {a : Option Addr} {c : Nat} {xs : List Nat} {g : FuncId} {cs : Array Value} {p : Nat → Bool} (hA : Cl w a (fl xs)) (hg : Known Try.prog g) (hF : ∀ w', Below w.heap.size w w' → ∀ k, k < xs.length → Pure Try.prog g ([.float .f32 (xs.getD k 0)] ++ cs.toList.map cn) w' (.bool (p k))) (hn : xs.length ≤ 1050000) : Pure Try.prog 44 [.slice a xs.length c, .func (.func g) #[] cs] w (.bool (decide (0 ≤ idxI p xs.length))) := by
  refine Pure.enter Try.func44 rfl Try.ntmps44 (Nat.le_of_ble_eq_true rfl) ?_
  refine V.seq ?_
  refine V.region ?_
  refine VL.r (.inl rfl) rfl (by decide) (yr_assign (u := .bool false) rfl rfl) ?_
  refine VL.nil ?_
  refine VE.then_wp ?_
  refine V.seq ?_
  refine V.region ?_
  refine VL.r (.inl rfl) rfl (by decide) (yr_move rfl rfl) ?_
  refine VL.r (.inl rfl) rfl (by decide) (yr_move rfl rfl) ?_
  refine VL.q (.inl rfl) rfl (by decide) (yq_callf rfl known49_Rows (.cons rfl (.cons rfl .nil)) (fun w hw => (c_idxF (by first | exact Sees.root (by assumption) w hw | exact Sees.own (by repeat (first | exact List.mem_cons_self | exact List.mem_append_left _ (by assumption) | apply List.mem_cons_of_mem | apply List.mem_append_right)) w hw) hg (fun w1 hb => hF w1 (hw.below.trans (hb.mono hw.below.size))) (by omega)))) ?_
  refine VL.r (.inl rfl) rfl (by decide) (yr_icmp rfl (.inr (.inr (.inr (.inr (.inr rfl))))) rfl rfl) ?_
  refine VL.r (.inl rfl) rfl (by decide) (yr_assign rfl rfl) ?_
  refine VL.nil ?_
  refine VE.then_wp ?_
  refine V.ret ?_
  refine ret1 rfl rfl (fun w1 hw => ?_)
  exact ⟨rfl, hw.below⟩

theorem c_idxR {w : World} {a : Option Addr} {c : Nat} {f : Nat → Option Addr × Nat} {xss : List (List Nat)} {g : FuncId} {cs : Array Value} {p : Nat → Bool} (hA : Cl w a (hd f xss)) (hg : Known Try.prog g) (hF : ∀ w', Below w.heap.size w w' → ∀ k, k < xss.length → Pure Try.prog g ([.slice (f k).1 (xss.getD k []).length (f k).2] ++ cs.toList.map cn) w' (.bool (p k))) (hn : xss.length ≤ 1050000) : Pure Try.prog 43 [.slice a xss.length c, .func (.func g) #[] cs] w (.int .i64 (idxI p xss.length)) := by
  refine Pure.enter Try.func43 rfl Try.ntmps43 (Nat.le_of_ble_eq_true rfl) ?_
  refine V.seq ?_
  refine V.region ?_
  refine VL.r (.inl rfl) rfl (by decide) (yr_assign (u := .int .i64 0) rfl rfl) ?_
  refine VL.nil ?_
  refine VE.then_wp ?_
  refine V.seq ?_
  refine V.seq ?_
  refine V.region ?_
  refine VL.r (.inl rfl) rfl (by decide) (yr_move rfl rfl) ?_
  refine VL.r (.inl rfl) rfl (by decide) (yr_len rfl Try.underlying24 rfl) ?_
  refine VL.r (.inl rfl) rfl (by decide) (yr_move (u := .int .i64 0) rfl rfl) ?_
  refine VL.nil ?_
  refine VE.then_wp ?_
  refine V.block ?_
  refine V.loops (G := Nat) [(0, _), (1, _), (7, _)] (fun (k : Nat) => k ≤ xss.length ∧ ∀ j, j < k → p j = false) (fun (k : Nat) => [(8, .int .i64 (k : Int))]) (fun (k : Nat) => xss.length - k) 0 (.cons rfl (.cons rfl (.cons rfl .nil))) (.cons rfl .nil) ?_ ?_
  · exact (by exact ⟨by omega, fun j h => by omega⟩)
  rintro k ⟨hk, hI⟩
  show V _ _ _ _ ([(8, .int .i64 (k : Int))] ++ [(0, _), (1, _), (7, _)]) _ _
  refine V.seq ?_
  refine V.region ?_
  refine VL.r (.inl rfl) rfl (by decide) (yr_icmp rfl (.inr (.inr (.inl rfl))) rfl rfl) ?_
  refine VL.nil ?_
  refine VE.then_wp ?_
  refine V.seq ?_
  refine V.cond rfl (fun h1 => ?_) (fun h1 => ?_)
  · skip
    replace h1 := ic_lss h1
    refine V.skip ?_
    refine VE.then_wp ?_
    refine V.seq ?_
    refine V.block ?_
    refine V.seq ?_
    refine V.region ?_
    refine VL.r (.inl rfl) rfl (by decide) (yr_move rfl rfl) ?_
    refine VL.r (.inl rfl) rfl (by decide) (yr_assign rfl rfl) ?_
    refine VL.nil ?_
    refine VE.then_wp ?_
    refine V.seq ?_
    refine V.region ?_
    refine VL.r (.inl rfl) rfl (by decide) (yr_move rfl rfl) ?_
    refine VL.r (.inl rfl) rfl (by decide) (yr_move rfl rfl) ?_
    refine VL.r (.inl rfl) rfl (by decide) (yr_move rfl rfl) ?_
    refine VL.q (.inl rfl) rfl (by decide) (yq_idx (k := k) rfl Try.underlying24 sz25_Rows rfl rfl (by first | exact Sees.root (by assumption) | exact Sees.own (by repeat (first | exact List.mem_cons_self | exact List.mem_append_left _ (by assumption) | apply List.mem_cons_of_mem | apply List.mem_append_right)) | exact Sees.root (hR _ (by omega)) | exact Sees.own (RowsIn.mem (by repeat (first | exact RowsIn.here | exact RowsIn.last | apply RowsIn.there | apply RowsIn.thereS)) _ (by omega)) | exact Sees.own (WRowsIn.mem (by repeat (first | exact WRowsIn.here | exact WRowsIn.last | apply WRowsIn.there | apply WRowsIn.thereS)) _ (by omega))) (by first | rfl | omega | (push_cast; rfl) | (push_cast; omega) | exact tmod_nat _ _) (by exact hd_length _ _) (by omega)) ?_
    refine VL.q (.inl rfl) rfl (by decide) (yq_loadH rfl fb25_Rows rfl (by first | exact Sees.root (by assumption) | exact Sees.own (by repeat (first | exact List.mem_cons_self | exact List.mem_append_left _ (by assumption) | apply List.mem_cons_of_mem | apply List.mem_append_right)) | exact Sees.root (hR _ (by omega)) | exact Sees.own (RowsIn.mem (by repeat (first | exact RowsIn.here | exact RowsIn.last | apply RowsIn.there | apply RowsIn.thereS)) _ (by omega)) | exact Sees.own (WRowsIn.mem (by repeat (first | exact WRowsIn.here | exact WRowsIn.last | apply WRowsIn.there | apply WRowsIn.thereS)) _ (by omega))) (by omega)) ?_
    refine VL.q (.inl rfl) rfl (by decide) (yq_call rfl hg rfl (.cons rfl .nil) (fun w hw => hF w hw.below k (by omega))) ?_
    refine VL.nil ?_
    refine VE.then_wp ?_
    refine V.cond rfl (fun h2 => ?_) (fun h2 => ?_)
    · skip
      refine V.seq ?_
      refine V.region ?_
      refine VL.r (.inl rfl) rfl (by decide) (yr_move rfl rfl) ?_
      refine VL.r (.inl rfl) rfl (by decide) (yr_assign rfl rfl) ?_
      refine VL.nil ?_
      refine VE.then_wp ?_
      refine V.ret ?_
      refine VE.block_ret ?_
      refine VE.then_ret ?_
      refine VE.then_ret ?_
      refine VE.block_ret ?_
      refine VE.then_ret ?_
      refine ret1 rfl rfl (fun w1 hw => ?_)
      exact ⟨by rw [idxI_of hI (by assumption) (by omega)], hw.below⟩
    · skip
      refine V.skip ?_
      refine VE.block_normal ?_
      refine VE.then_wp ?_
      refine V.region ?_
      refine VL.r (.inl rfl) rfl (by decide) (yr_int rfl rfl rfl (.inl ⟨rfl, wrap_in (by omega)⟩)) ?_
      refine VL.r (.inl rfl) rfl (by decide) (yr_move rfl rfl) ?_
      refine VL.nil ?_
      refine VE.round (k + 1) ?_ ?_ ?_ ?_ ?_
      · exact (.cons rfl .nil)
      · exact (.cons rfl (.cons rfl (.cons rfl .nil)))
      · exact (fun w hw => hw)
      · exact ⟨by omega, fun j hj => by rcases Nat.lt_or_ge j k with h | h; exact hI j h; obtain rfl : j = k := (by omega); assumption⟩
      · (try dsimp only); omega
  · skip
    replace h1 := ic_lss' h1
    refine V.exit ?_
    refine VE.then_exit ?_
    refine VE.then_exit ?_
    refine VE.block_here ?_
    refine VE.then_wp ?_
    refine V.seq ?_
    refine V.region ?_
    refine VL.r (.inl rfl) rfl (by decide) (yr_assign (u := .int .i64 (-1)) rfl rfl) ?_
    refine VL.nil ?_
    refine VE.then_wp ?_
    refine V.ret ?_
    refine ret1 rfl rfl (fun w1 hw => ?_)
    obtain rfl : k = xss.length := by omega
    exact ⟨by rw [idxI_no hI], hw.below⟩

theorem c_hasR {w : World} {a : Option Addr} {c : Nat} {f : Nat → Option Addr × Nat} {xss : List (List Nat)} {g : FuncId} {cs : Array Value} {p : Nat → Bool} (hA : Cl w a (hd f xss)) (hg : Known Try.prog g) (hF : ∀ w', Below w.heap.size w w' → ∀ k, k < xss.length → Pure Try.prog g ([.slice (f k).1 (xss.getD k []).length (f k).2] ++ cs.toList.map cn) w' (.bool (p k))) (hn : xss.length ≤ 1050000) : Pure Try.prog 36 [.slice a xss.length c, .func (.func g) #[] cs] w (.bool (decide (0 ≤ idxI p xss.length))) := by
  refine Pure.enter Try.func36 rfl Try.ntmps36 (Nat.le_of_ble_eq_true rfl) ?_
  refine V.seq ?_
  refine V.region ?_
  refine VL.r (.inl rfl) rfl (by decide) (yr_assign (u := .bool false) rfl rfl) ?_
  refine VL.nil ?_
  refine VE.then_wp ?_
  refine V.seq ?_
  refine V.region ?_
  refine VL.r (.inl rfl) rfl (by decide) (yr_move rfl rfl) ?_
  refine VL.r (.inl rfl) rfl (by decide) (yr_move rfl rfl) ?_
  refine VL.q (.inl rfl) rfl (by decide) (yq_callf rfl known43_Rows (.cons rfl (.cons rfl .nil)) (fun w hw => (c_idxR (by first | exact Sees.root (by assumption) w hw | exact Sees.own (by repeat (first | exact List.mem_cons_self | exact List.mem_append_left _ (by assumption) | apply List.mem_cons_of_mem | apply List.mem_append_right)) w hw) hg (fun w1 hb => hF w1 (hw.below.trans (hb.mono hw.below.size))) (by omega)))) ?_
  refine VL.r (.inl rfl) rfl (by decide) (yr_icmp rfl (.inr (.inr (.inr (.inr (.inr rfl))))) rfl rfl) ?_
  refine VL.r (.inl rfl) rfl (by decide) (yr_assign rfl rfl) ?_
  refine VL.nil ?_
  refine VE.then_wp ?_
  refine V.ret ?_
  refine ret1 rfl rfl (fun w1 hw => ?_)
  exact ⟨rfl, hw.below⟩

theorem c_areFin1 {w : World} (x : Nat) : Pure Try.prog 45 [.float .f32 x] w (.bool (!fin x)) := by
  refine Pure.enter Try.func45 rfl Try.ntmps45 (Nat.le_of_ble_eq_true rfl) ?_
  refine V.seq ?_
  refine V.region ?_
  refine VL.r (.inl rfl) rfl (by decide) (yr_assign (u := .bool false) rfl rfl) ?_
  refine VL.nil ?_
  refine VE.then_wp ?_
  refine V.seq ?_
  refine V.region ?_
  refine VL.r (.inl rfl) rfl (by decide) (yr_move rfl rfl) ?_
  refine VL.q (.inl rfl) rfl (by decide) (yq_callf rfl known26_Rows (.cons rfl .nil) (fun w hw => c_IsFinite _)) ?_
  refine VL.r (.inl rfl) rfl (by decide) (yr_not rfl rfl) ?_
  refine VL.r (.inl rfl) rfl (by decide) (yr_assign rfl rfl) ?_
  refine VL.nil ?_
  refine VE.then_wp ?_
  refine V.ret ?_
  refine ret1 rfl rfl (fun w1 hw => ?_)
  exact ⟨rfl, hw.below⟩

theorem c_areNot1 {w : World} (x : Nat) : Pure Try.prog 46 [.float .f32 x] w (.bool (!least x)) := by
  refine Pure.enter Try.func46 rfl Try.ntmps46 (Nat.le_of_ble_eq_true rfl) ?_
  refine V.seq ?_
  refine V.region ?_
  refine VL.r (.inl rfl) rfl (by decide) (yr_assign (u := .bool false) rfl rfl) ?_
  refine VL.nil ?_
  refine VE.then_wp ?_
  refine V.seq ?_
  refine V.region ?_
  refine VL.r (.inl rfl) rfl (by decide) (yr_move rfl rfl) ?_
  refine VL.q (.inl rfl) rfl (by decide) (yq_callf rfl known26_Rows (.cons rfl .nil) (fun w hw => c_IsFinite _)) ?_
  refine VL.r (.inl rfl) rfl (by decide) (yr_not rfl rfl) ?_
  refine VL.r (.inl rfl) rfl (by decide) (yr_move rfl rfl) ?_
  refine VX.split 6 _ rfl (fun h1 => ?_) (fun h1 => ?_)
  · skip
    replace h1 := bnot_t h1
    refine VL.no rfl rfl rfl rfl rfl (by decide) ?_
    refine VL.no rfl rfl rfl rfl rfl (by decide) ?_
    refine VL.r (.inl rfl) rfl (by decide) (yr_pick_t (u := .bool true) rfl rfl rfl) ?_
    refine VL.r (.inl rfl) rfl (by decide) (yr_assign rfl rfl) ?_
    refine VL.nil ?_
    refine VE.then_wp ?_
    refine V.ret ?_
    refine ret1 rfl rfl (fun w1 hw => ?_)
    exact ⟨by simp only [least, *, Bool.false_and, Bool.not_false], hw.below⟩
  · skip
    replace h1 := bnot_f h1
    refine VL.r (.inr ⟨_, _, _, rfl, rfl, rfl⟩) rfl (by decide) (yr_move rfl rfl) ?_
    refine VL.r (.inr ⟨_, _, _, rfl, rfl, rfl⟩) rfl (by decide) (yr_fcmp (b := 0) rfl (.inr (.inr (.inl rfl))) rfl rfl) ?_
    refine VL.r (.inl rfl) rfl (by decide) (yr_pick_f rfl rfl rfl) ?_
    refine VL.r (.inl rfl) rfl (by decide) (yr_assign rfl rfl) ?_
    refine VL.nil ?_
    refine VE.then_wp ?_
    refine V.ret ?_
    refine ret1 rfl rfl (fun w1 hw => ?_)
    exact ⟨by simp only [least, *, Bool.true_and, lss_geq, Bool.not_not], hw.below⟩

theorem c_areFinite {w : World} {a : Option Addr} {c : Nat} {xs : List Nat} (hA : Cl w a (fl xs)) (hn : xs.length ≤ 1050000) : Pure Try.prog 38 [.slice a xs.length c] w (.bool (xs.all fin)) := by
  refine Pure.enter Try.func38 rfl Try.ntmps38 (Nat.le_of_ble_eq_true rfl) ?_
  refine V.seq ?_
  refine V.region ?_
  refine VL.r (.inl rfl) rfl (by decide) (yr_assign (u := .bool false) rfl rfl) ?_
  refine VL.nil ?_
  refine VE.then_wp ?_
  refine V.seq ?_
  refine V.region ?_
  refine VL.r (.inl rfl) rfl (by decide) (yr_move rfl rfl) ?_
  refine VL.q (.inl rfl) rfl (by decide) (yq_callf rfl known44_Rows (.cons rfl (.cons rfl .nil)) (fun w hw => (c_hasF (p := fun k => !fin (xs.getD k 0)) (by first | exact Sees.root (by assumption) w hw | exact Sees.own (by repeat (first | exact List.mem_cons_self | exact List.mem_append_left _ (by assumption) | apply List.mem_cons_of_mem | apply List.mem_append_right)) w hw) known45_Rows (fun w1 _ k _ => c_areFin1 _) (by omega)))) ?_
  refine VL.r (.inl rfl) rfl (by decide) (yr_not rfl rfl) ?_
  refine VL.r (.inl rfl) rfl (by decide) (yr_assign rfl rfl) ?_
  refine VL.nil ?_
  refine VE.then_wp ?_
  refine V.ret ?_
  refine ret1 rfl rfl (fun w1 hw => ?_)
  exact ⟨congrArg Value.bool (all_list fin xs), hw.below⟩

theorem c_areNotNeg {w : World} {a : Option Addr} {c : Nat} {xs : List Nat} (hA : Cl w a (fl xs)) (hn : xs.length ≤ 1050000) : Pure Try.prog 39 [.slice a xs.length c] w (.bool (xs.all least)) := by
  refine Pure.enter Try.func39 rfl Try.ntmps39 (Nat.le_of_ble_eq_true rfl) ?_
  refine V.seq ?_
  refine V.region ?_
  refine VL.r (.inl rfl) rfl (by decide) (yr_assign (u := .bool false) rfl rfl) ?_
  refine VL.nil ?_
  refine VE.then_wp ?_
  refine V.seq ?_
  refine V.region ?_
  refine VL.r (.inl rfl) rfl (by decide) (yr_move rfl rfl) ?_
  refine VL.q (.inl rfl) rfl (by decide) (yq_callf rfl known44_Rows (.cons rfl (.cons rfl .nil)) (fun w hw => (c_hasF (p := fun k => !least (xs.getD k 0)) (by first | exact Sees.root (by assumption) w hw | exact Sees.own (by repeat (first | exact List.mem_cons_self | exact List.mem_append_left _ (by assumption) | apply List.mem_cons_of_mem | apply List.mem_append_right)) w hw) known46_Rows (fun w1 _ k _ => c_areNot1 _) (by omega)))) ?_
  refine VL.r (.inl rfl) rfl (by decide) (yr_not rfl rfl) ?_
  refine VL.r (.inl rfl) rfl (by decide) (yr_assign rfl rfl) ?_
  refine VL.nil ?_
  refine VE.then_wp ?_
  refine V.ret ?_
  refine ret1 rfl rfl (fun w1 hw => ?_)
  exact ⟨congrArg Value.bool (all_list least xs), hw.below⟩

end Go.Proofs.Ytalimcjmaoapkaa


namespace Go.Proofs.Ytalimcjmaoapkaa
open Go.RowKit
set_option linter.unusedVariables false
set_option linter.unusedSimpArgs false
set_option maxRecDepth 20000

theorem sz24_Design : (Try.prog.info? 24).map (·.size) = some 1 := by kernel_rfl
theorem fb24_Design : flatB Try.prog 24 = true := by kernel_rfl
theorem sz25_Design : (Try.prog.info? 25).map (·.size) = some 1 := by kernel_rfl
theorem fb25_Design : flatB Try.prog 25 = true := by kernel_rfl
theorem known38_Design : Known Try.prog 38 := Known.mk' Try.func38 (by kernel_rfl)
theorem known34_Design : Known Try.prog 34 := Known.mk' Try.func34 (by kernel_rfl)
theorem known35_Design : Known Try.prog 35 := Known.mk' Try.func35 (by kernel_rfl)
theorem known37_Design : Known Try.prog 37 := Known.mk' Try.func37 (by kernel_rfl)
theorem known36_Design : Known Try.prog 36 := Known.mk' Try.func36 (by kernel_rfl)
theorem known39_Design : Known Try.prog 39 := Known.mk' Try.func39 (by kernel_rfl)

theorem c_isRows {w : World} (n : Nat) : Pure Try.prog 34 [.int .i64 (n : Int)] w (.bool (decide (1 ≤ n ∧ n ≤ 48))) := by
  refine Pure.enter Try.func34 rfl Try.ntmps34 (Nat.le_of_ble_eq_true rfl) ?_
  refine V.seq ?_
  refine V.region ?_
  refine VL.r (.inl rfl) rfl (by decide) (yr_assign (u := .bool false) rfl rfl) ?_
  refine VL.nil ?_
  refine VE.then_wp ?_
  refine V.seq ?_
  refine V.region ?_
  refine VL.r (.inl rfl) rfl (by decide) (yr_move rfl rfl) ?_
  refine VL.r (.inl rfl) rfl (by decide) (yr_icmp rfl (.inr (.inr (.inr (.inr (.inr rfl))))) rfl rfl) ?_
  refine VL.r (.inl rfl) rfl (by decide) (yr_move rfl rfl) ?_
  refine VX.split 5 _ rfl (fun h1 => ?_) (fun h1 => ?_)
  · skip
    replace h1 := ic_geq h1
    refine VL.r (.inr ⟨_, _, _, rfl, rfl, rfl⟩) rfl (by decide) (yr_move rfl rfl) ?_
    refine VL.r (.inr ⟨_, _, _, rfl, rfl, rfl⟩) rfl (by decide) (yr_icmp rfl (.inr (.inr (.inr (.inl rfl)))) rfl rfl) ?_
    refine VL.r (.inl rfl) rfl (by decide) (yr_pick_t rfl rfl rfl) ?_
    refine VL.r (.inl rfl) rfl (by decide) (yr_assign rfl rfl) ?_
    refine VL.nil ?_
    refine VE.then_wp ?_
    refine V.ret ?_
    refine ret1 rfl rfl (fun w1 hw => ?_)
    refine ⟨congrArg Value.bool ?_, hw.below⟩
    rw [Bool.eq_iff_iff, decide_eq_true_eq]
    constructor
    · intro h; have := ic_leq h; omega
    · intro h; exact decide_eq_true (by omega)
  · skip
    replace h1 := ic_geq' h1
    refine VL.no rfl rfl rfl rfl rfl (by decide) ?_
    refine VL.no rfl rfl rfl rfl rfl (by decide) ?_
    refine VL.r (.inl rfl) rfl (by decide) (yr_pick_f (u := .bool false) rfl rfl rfl) ?_
    refine VL.r (.inl rfl) rfl (by decide) (yr_assign rfl rfl) ?_
    refine VL.nil ?_
    refine VE.then_wp ?_
    refine V.ret ?_
    refine ret1 rfl rfl (fun w1 hw => ?_)
    exact ⟨by rw [decide_eq_false (by omega)], hw.below⟩

theorem c_isUnknowns {w : World} (n : Nat) : Pure Try.prog 35 [.int .i64 (n : Int)] w (.bool (decide (1 ≤ n ∧ n ≤ 8))) := by
  refine Pure.enter Try.func35 rfl Try.ntmps35 (Nat.le_of_ble_eq_true rfl) ?_
  refine V.seq ?_
  refine V.region ?_
  refine VL.r (.inl rfl) rfl (by decide) (yr_assign (u := .bool false) rfl rfl) ?_
  refine VL.nil ?_
  refine VE.then_wp ?_
  refine V.seq ?_
  refine V.region ?_
  refine VL.r (.inl rfl) rfl (by decide) (yr_move rfl rfl) ?_
  refine VL.r (.inl rfl) rfl (by decide) (yr_icmp rfl (.inr (.inr (.inr (.inr (.inr rfl))))) rfl rfl) ?_
  refine VL.r (.inl rfl) rfl (by decide) (yr_move rfl rfl) ?_
  refine VX.split 5 _ rfl (fun h1 => ?_) (fun h1 => ?_)
  · skip
    replace h1 := ic_geq h1
    refine VL.r (.inr ⟨_, _, _, rfl, rfl, rfl⟩) rfl (by decide) (yr_move rfl rfl) ?_
    refine VL.r (.inr ⟨_, _, _, rfl, rfl, rfl⟩) rfl (by decide) (yr_icmp rfl (.inr (.inr (.inr (.inl rfl)))) rfl rfl) ?_
    refine VL.r (.inl rfl) rfl (by decide) (yr_pick_t rfl rfl rfl) ?_
    refine VL.r (.inl rfl) rfl (by decide) (yr_assign rfl rfl) ?_
    refine VL.nil ?_
    refine VE.then_wp ?_
    refine V.ret ?_
    refine ret1 rfl rfl (fun w1 hw => ?_)
    refine ⟨congrArg Value.bool ?_, hw.below⟩
    rw [Bool.eq_iff_iff, decide_eq_true_eq]
    constructor
    · intro h; have := ic_leq h; omega
    · intro h; exact decide_eq_true (by omega)
  · skip
    replace h1 := ic_geq' h1
    refine VL.no rfl rfl rfl rfl rfl (by decide) ?_
    refine VL.no rfl rfl rfl rfl rfl (by decide) ?_
    refine VL.r (.inl rfl) rfl (by decide) (yr_pick_f (u := .bool false) rfl rfl rfl) ?_
    refine VL.r (.inl rfl) rfl (by decide) (yr_assign rfl rfl) ?_
    refine VL.nil ?_
    refine VE.then_wp ?_
    refine V.ret ?_
    refine ret1 rfl rfl (fun w1 hw => ?_)
    exact ⟨by rw [decide_eq_false (by omega)], hw.below⟩

theorem c_vd1 {w : World} {q ra a : Option Addr} {rc c : Nat} {u1 u2 : Value} {xs : List Nat} {f : Nat → Option Addr × Nat} {xss : List (List Nat)} (hX : Cl w ra (fl xs)) (hQ : Cl w q [.slice a xss.length c, u1, u2]) (hA : Cl w a (hd f xss)) (h0 : 0 < xss.length) (hn : xs.length ≤ 1050000) : Pure Try.prog 37 [.slice ra xs.length rc, .pointer (some (adr q 0))] w (.bool (!rowOk xs (xss.getD 0 []).length)) := by
  refine Pure.enter Try.func37 rfl Try.ntmps37 (Nat.le_of_ble_eq_true rfl) ?_
  refine V.seq ?_
  refine V.region ?_
  refine VL.r (.inl rfl) rfl (by decide) (yr_assign (u := .bool false) rfl rfl) ?_
  refine VL.nil ?_
  refine VE.then_wp ?_
  refine V.seq ?_
  refine V.region ?_
  refine VL.r (.inl rfl) rfl (by decide) (yr_move rfl rfl) ?_
  refine VL.r (.inl rfl) rfl (by decide) (yr_len rfl Try.underlying25 rfl) ?_
  refine VL.r (.inl rfl) rfl (by decide) (yr_fieldAddr rfl Try.underlying27 rfl rfl sz24_Design (by decide) rfl) ?_
  refine VL.q (.inl rfl) rfl (by decide) (yq_load rfl fb24_Design rfl (by first | exact Sees.root (by assumption) | exact Sees.own (by repeat (first | exact List.mem_cons_self | exact List.mem_append_left _ (by assumption) | apply List.mem_cons_of_mem | apply List.mem_append_right)) | exact Sees.root (hR _ (by omega)) | exact Sees.own (RowsIn.mem (by repeat (first | exact RowsIn.here | exact RowsIn.last | apply RowsIn.there | apply RowsIn.thereS)) _ (by omega)) | exact Sees.own (WRowsIn.mem (by repeat (first | exact WRowsIn.here | exact WRowsIn.last | apply WRowsIn.there | apply WRowsIn.thereS)) _ (by omega))) rfl) ?_
  refine VL.q (.inl rfl) rfl (by decide) (yq_idx (k := 0) rfl Try.underlying24 sz25_Design rfl rfl (by first | exact Sees.root (by assumption) | exact Sees.own (by repeat (first | exact List.mem_cons_self | exact List.mem_append_left _ (by assumption) | apply List.mem_cons_of_mem | apply List.mem_append_right)) | exact Sees.root (hR _ (by omega)) | exact Sees.own (RowsIn.mem (by repeat (first | exact RowsIn.here | exact RowsIn.last | apply RowsIn.there | apply RowsIn.thereS)) _ (by omega)) | exact Sees.own (WRowsIn.mem (by repeat (first | exact WRowsIn.here | exact WRowsIn.last | apply WRowsIn.there | apply WRowsIn.thereS)) _ (by omega))) (by first | rfl | omega | (push_cast; rfl) | (push_cast; omega) | exact tmod_nat _ _) (by first | exact fl_length _ | exact hd_length _ _ | simp) (by omega)) ?_
  refine VL.q (.inl rfl) rfl (by decide) (yq_loadH rfl fb25_Design rfl (by first | exact Sees.root (by assumption) | exact Sees.own (by repeat (first | exact List.mem_cons_self | exact List.mem_append_left _ (by assumption) | apply List.mem_cons_of_mem | apply List.mem_append_right)) | exact Sees.root (hR _ (by omega)) | exact Sees.own (RowsIn.mem (by repeat (first | exact RowsIn.here | exact RowsIn.last | apply RowsIn.there | apply RowsIn.thereS)) _ (by omega)) | exact Sees.own (WRowsIn.mem (by repeat (first | exact WRowsIn.here | exact WRowsIn.last | apply WRowsIn.there | apply WRowsIn.thereS)) _ (by omega))) (by omega)) ?_
  refine VL.r (.inl rfl) rfl (by decide) (yr_len rfl Try.underlying25 rfl) ?_
  refine VL.r (.inl rfl) rfl (by decide) (yr_icmp rfl (.inr (.inl rfl)) rfl rfl) ?_
  refine VL.r (.inl rfl) rfl (by decide) (yr_move rfl rfl) ?_
  refine VX.split 12 _ rfl (fun h1 => ?_) (fun h1 => ?_)
  · skip
    replace h1 := ic_neq h1
    refine VL.no rfl rfl rfl rfl rfl (by decide) ?_
    refine VL.no rfl rfl rfl rfl rfl (by decide) ?_
    refine VL.no rfl rfl rfl rfl rfl (by decide) ?_
    refine VL.r (.inl rfl) rfl (by decide) (yr_pick_t (u := .bool true) rfl rfl rfl) ?_
    refine VL.r (.inl rfl) rfl (by decide) (yr_assign rfl rfl) ?_
    refine VL.nil ?_
    refine VE.then_wp ?_
    refine V.ret ?_
    refine ret1 rfl rfl (fun w1 hw => ?_)
    exact ⟨by rw [rowOk, decide_eq_false (by omega), Bool.and_false]; rfl, hw.below⟩
  · skip
    replace h1 := ic_neq' h1
    refine VL.r (.inr ⟨_, _, _, rfl, rfl, rfl⟩) rfl (by decide) (yr_move rfl rfl) ?_
    refine VL.q (.inr ⟨_, _, _, rfl, rfl, rfl⟩) rfl (by decide) (yq_callf rfl known38_Design (.cons rfl .nil) (fun w hw => (c_areFinite (by first | exact Sees.root (by assumption) w hw | exact Sees.own (by repeat (first | exact List.mem_cons_self | exact List.mem_append_left _ (by assumption) | apply List.mem_cons_of_mem | apply List.mem_append_right)) w hw) (by omega)))) ?_
    refine VL.r (.inr ⟨_, _, _, rfl, rfl, rfl⟩) rfl (by decide) (yr_not rfl rfl) ?_
    refine VL.r (.inl rfl) rfl (by decide) (yr_pick_f rfl rfl rfl) ?_
    refine VL.r (.inl rfl) rfl (by decide) (yr_assign rfl rfl) ?_
    refine VL.nil ?_
    refine VE.then_wp ?_
    refine V.ret ?_
    refine ret1 rfl rfl (fun w1 hw => ?_)
    exact ⟨by rw [rowOk, decide_eq_true (by omega), Bool.and_true], hw.below⟩

theorem c_implValid {w : World} {a a1 a2 : Option Addr} {c c1 c2 : Nat} {f : Nat → Option Addr × Nat} {xss : List (List Nat)} {ws gs : List Nat} (hA : Cl w a (hd f xss)) (hR : Rws w f xss) (hW : Cl w a1 (fl ws)) (hG : Cl w a2 (fl gs)) (hsz : bulk xss + ws.length + gs.length ≤ 1050000) : Pure Try.prog 28 [.agg #[.slice a xss.length c, .slice a1 ws.length c1, .slice a2 gs.length c2]] w (.bool (validD xss ws gs)) := by
  refine Pure.enter Try.func28 rfl Try.ntmps28 (Nat.le_of_ble_eq_true rfl) ?_
  have hr : ∀ i, i < xss.length → (xss.getD i []).length ≤ 1050000 := fun i hi => by have := bulk_row hi; omega
  have hxl : xss.length ≤ bulk xss := by unfold bulk; omega
  refine V.seq ?_
  refine V.region ?_
  refine VL.new1 (.inl rfl) rfl (by decide) (yn_box rfl rfl (.inr ⟨rfl, rfl⟩)) ?_
  intro b1
  refine VL.r (.inl rfl) rfl (by decide) (yr_assign (u := .bool false) rfl rfl) ?_
  refine VL.nil ?_
  refine VE.then_wp ?_
  refine V.seq ?_
  refine V.seq ?_
  refine V.region ?_
  refine VL.r (.inl rfl) rfl (by decide) (yr_fieldAddr rfl Try.underlying27 rfl rfl sz24_Design (by decide) rfl) ?_
  refine VL.q (.inl rfl) rfl (by decide) (yq_load rfl fb24_Design rfl (by first | exact Sees.root (by assumption) | exact Sees.own (by repeat (first | exact List.mem_cons_self | exact List.mem_append_left _ (by assumption) | apply List.mem_cons_of_mem | apply List.mem_append_right)) | exact Sees.root (hR _ (by omega)) | exact Sees.own (RowsIn.mem (by repeat (first | exact RowsIn.here | exact RowsIn.last | apply RowsIn.there | apply RowsIn.thereS)) _ (by omega)) | exact Sees.own (WRowsIn.mem (by repeat (first | exact WRowsIn.here | exact WRowsIn.last | apply WRowsIn.there | apply WRowsIn.thereS)) _ (by omega))) rfl) ?_
  refine VL.r (.inl rfl) rfl (by decide) (yr_len rfl Try.underlying24 rfl) ?_
  refine VL.q (.inl rfl) rfl (by decide) (yq_callf rfl known34_Design (.cons rfl .nil) (fun w hw => c_isRows _)) ?_
  refine VL.r (.inl rfl) rfl (by decide) (yr_not rfl rfl) ?_
  refine VL.r (.inl rfl) rfl (by decide) (yr_move rfl rfl) ?_
  refine VX.split 8 _ rfl (fun h1 => ?_) (fun h1 => ?_)
  · skip
    replace h1 := bnot_t h1
    replace h1 := of_decide_eq_false h1
    refine VL.no rfl rfl rfl rfl rfl (by decide) ?_
    refine VL.no rfl rfl rfl rfl rfl (by decide) ?_
    refine VL.no rfl rfl rfl rfl rfl (by decide) ?_
    refine VL.no rfl rfl rfl rfl rfl (by decide) ?_
    refine VL.no rfl rfl rfl rfl rfl (by decide) ?_
    refine VL.no rfl rfl rfl rfl rfl (by decide) ?_
    refine VL.no rfl rfl rfl rfl rfl (by decide) ?_
    refine VL.r (.inl rfl) rfl (by decide) (yr_pick_t (u := .bool true) rfl rfl rfl) ?_
    refine VL.r (.inl rfl) rfl (by decide) (yr_move rfl rfl) ?_
    refine VL.no rfl rfl rfl rfl rfl (by decide) ?_
    refine VL.no rfl rfl rfl rfl rfl (by decide) ?_
    refine VL.no rfl rfl rfl rfl rfl (by decide) ?_
    refine VL.no rfl rfl rfl rfl rfl (by decide) ?_
    refine VL.no rfl rfl rfl rfl rfl (by decide) ?_
    refine VL.no rfl rfl rfl rfl rfl (by decide) ?_
    refine VL.no rfl rfl rfl rfl rfl (by decide) ?_
    refine VL.r (.inl rfl) rfl (by decide) (yr_pick_t (u := .bool true) rfl rfl rfl) ?_
    refine VL.r (.inl rfl) rfl (by decide) (yr_move rfl rfl) ?_
    refine VL.no rfl rfl rfl rfl rfl (by decide) ?_
    refine VL.no rfl rfl rfl rfl rfl (by decide) ?_
    refine VL.no rfl rfl rfl rfl rfl (by decide) ?_
    refine VL.no rfl rfl rfl rfl rfl (by decide) ?_
    refine VL.no rfl rfl rfl rfl rfl (by decide) ?_
    refine VL.no rfl rfl rfl rfl rfl (by decide) ?_
    refine VL.no rfl rfl rfl rfl rfl (by decide) ?_
    refine VL.r (.inl rfl) rfl (by decide) (yr_pick_t (u := .bool true) rfl rfl rfl) ?_
    refine VL.nil ?_
    refine VE.then_wp ?_
    refine V.condT rfl ?_
    refine V.seq ?_
    refine V.region ?_
    refine VL.r (.inl rfl) rfl (by decide) (yr_assign (u := .bool false) rfl rfl) ?_
    refine VL.nil ?_
    refine VE.then_wp ?_
    refine V.ret ?_
    refine VE.then_ret ?_
    refine ret1 rfl rfl (fun w1 hw => ?_)
    refine ⟨congrArg Value.bool (valid_no fun hv => ?_).symm, hw.below⟩
    obtain ⟨v1, v2, v3, v4, v5, v6, v7, v8⟩ := hv
    omega
  · skip
    replace h1 := bnot_f h1
    replace h1 := of_decide_eq_true h1
    refine VL.r (.inr ⟨_, _, _, rfl, rfl, rfl⟩) rfl (by decide) (yr_fieldAddr rfl Try.underlying27 rfl rfl sz25_Design (by decide) rfl) ?_
    refine VL.q (.inr ⟨_, _, _, rfl, rfl, rfl⟩) rfl (by decide) (yq_load rfl fb25_Design rfl (by first | exact Sees.root (by assumption) | exact Sees.own (by repeat (first | exact List.mem_cons_self | exact List.mem_append_left _ (by assumption) | apply List.mem_cons_of_mem | apply List.mem_append_right)) | exact Sees.root (hR _ (by omega)) | exact Sees.own (RowsIn.mem (by repeat (first | exact RowsIn.here | exact RowsIn.last | apply RowsIn.there | apply RowsIn.thereS)) _ (by omega)) | exact Sees.own (WRowsIn.mem (by repeat (first | exact WRowsIn.here | exact WRowsIn.last | apply WRowsIn.there | apply WRowsIn.thereS)) _ (by omega))) rfl) ?_
    refine VL.r (.inr ⟨_, _, _, rfl, rfl, rfl⟩) rfl (by decide) (yr_len rfl Try.underlying25 rfl) ?_
    refine VL.r (.inr ⟨_, _, _, rfl, rfl, rfl⟩) rfl (by decide) (yr_fieldAddr rfl Try.underlying27 rfl rfl sz24_Design (by decide) rfl) ?_
    refine VL.q (.inr ⟨_, _, _, rfl, rfl, rfl⟩) rfl (by decide) (yq_load rfl fb24_Design rfl (by first | exact Sees.root (by assumption) | exact Sees.own (by repeat (first | exact List.mem_cons_self | exact List.mem_append_left _ (by assumption) | apply List.mem_cons_of_mem | apply List.mem_append_right)) | exact Sees.root (hR _ (by omega)) | exact Sees.own (RowsIn.mem (by repeat (first | exact RowsIn.here | exact RowsIn.last | apply RowsIn.there | apply RowsIn.thereS)) _ (by omega)) | exact Sees.own (WRowsIn.mem (by repeat (first | exact WRowsIn.here | exact WRowsIn.last | apply WRowsIn.there | apply WRowsIn.thereS)) _ (by omega))) rfl) ?_
    refine VL.r (.inr ⟨_, _, _, rfl, rfl, rfl⟩) rfl (by decide) (yr_len rfl Try.underlying24 rfl) ?_
    refine VL.r (.inr ⟨_, _, _, rfl, rfl, rfl⟩) rfl (by decide) (yr_icmp rfl (.inr (.inl rfl)) rfl rfl) ?_
    refine VL.r (.inl rfl) rfl (by decide) (yr_pick_f rfl rfl rfl) ?_
    refine VL.r (.inl rfl) rfl (by decide) (yr_move rfl rfl) ?_
    refine VX.split 17 _ rfl (fun h3 => ?_) (fun h3 => ?_)
    · skip
      replace h3 := ic_neq h3
      refine VL.no rfl rfl rfl rfl rfl (by decide) ?_
      refine VL.no rfl rfl rfl rfl rfl (by decide) ?_
      refine VL.no rfl rfl rfl rfl rfl (by decide) ?_
      refine VL.no rfl rfl rfl rfl rfl (by decide) ?_
      refine VL.no rfl rfl rfl rfl rfl (by decide) ?_
      refine VL.no rfl rfl rfl rfl rfl (by decide) ?_
      refine VL.no rfl rfl rfl rfl rfl (by decide) ?_
      refine VL.r (.inl rfl) rfl (by decide) (yr_pick_t (u := .bool true) rfl rfl rfl) ?_
      refine VL.r (.inl rfl) rfl (by decide) (yr_move rfl rfl) ?_
      refine VL.no rfl rfl rfl rfl rfl (by decide) ?_
      refine VL.no rfl rfl rfl rfl rfl (by decide) ?_
      refine VL.no rfl rfl rfl rfl rfl (by decide) ?_
      refine VL.no rfl rfl rfl rfl rfl (by decide) ?_
      refine VL.no rfl rfl rfl rfl rfl (by decide) ?_
      refine VL.no rfl rfl rfl rfl rfl (by decide) ?_
      refine VL.no rfl rfl rfl rfl rfl (by decide) ?_
      refine VL.r (.inl rfl) rfl (by decide) (yr_pick_t (u := .bool true) rfl rfl rfl) ?_
      refine VL.nil ?_
      refine VE.then_wp ?_
      refine V.condT rfl ?_
      refine V.seq ?_
      refine V.region ?_
      refine VL.r (.inl rfl) rfl (by decide) (yr_assign (u := .bool false) rfl rfl) ?_
      refine VL.nil ?_
      refine VE.then_wp ?_
      refine V.ret ?_
      refine VE.then_ret ?_
      refine ret1 rfl rfl (fun w1 hw => ?_)
      refine ⟨congrArg Value.bool (valid_no fun hv => ?_).symm, hw.below⟩
      obtain ⟨v1, v2, v3, v4, v5, v6, v7, v8⟩ := hv
      omega
    · skip
      replace h3 := ic_neq' h3
      refine VL.r (.inr ⟨_, _, _, rfl, rfl, rfl⟩) rfl (by decide) (yr_fieldAddr rfl Try.underlying27 rfl rfl sz25_Design (by decide) rfl) ?_
      refine VL.q (.inr ⟨_, _, _, rfl, rfl, rfl⟩) rfl (by decide) (yq_load rfl fb25_Design rfl (by first | exact Sees.root (by assumption) | exact Sees.own (by repeat (first | exact List.mem_cons_self | exact List.mem_append_left _ (by assumption) | apply List.mem_cons_of_mem | apply List.mem_append_right)) | exact Sees.root (hR _ (by omega)) | exact Sees.own (RowsIn.mem (by repeat (first | exact RowsIn.here | exact RowsIn.last | apply RowsIn.there | apply RowsIn.thereS)) _ (by omega)) | exact Sees.own (WRowsIn.mem (by repeat (first | exact WRowsIn.here | exact WRowsIn.last | apply WRowsIn.there | apply WRowsIn.thereS)) _ (by omega))) rfl) ?_
      refine VL.r (.inr ⟨_, _, _, rfl, rfl, rfl⟩) rfl (by decide) (yr_len rfl Try.underlying25 rfl) ?_
      refine VL.r (.inr ⟨_, _, _, rfl, rfl, rfl⟩) rfl (by decide) (yr_fieldAddr rfl Try.underlying27 rfl rfl sz24_Design (by decide) rfl) ?_
      refine VL.q (.inr ⟨_, _, _, rfl, rfl, rfl⟩) rfl (by decide) (yq_load rfl fb24_Design rfl (by first | exact Sees.root (by assumption) | exact Sees.own (by repeat (first | exact List.mem_cons_self | exact List.mem_append_left _ (by assumption) | apply List.mem_cons_of_mem | apply List.mem_append_right)) | exact Sees.root (hR _ (by omega)) | exact Sees.own (RowsIn.mem (by repeat (first | exact RowsIn.here | exact RowsIn.last | apply RowsIn.there | apply RowsIn.thereS)) _ (by omega)) | exact Sees.own (WRowsIn.mem (by repeat (first | exact WRowsIn.here | exact WRowsIn.last | apply WRowsIn.there | apply WRowsIn.thereS)) _ (by omega))) rfl) ?_
      refine VL.r (.inr ⟨_, _, _, rfl, rfl, rfl⟩) rfl (by decide) (yr_len rfl Try.underlying24 rfl) ?_
      refine VL.r (.inr ⟨_, _, _, rfl, rfl, rfl⟩) rfl (by decide) (yr_icmp rfl (.inr (.inl rfl)) rfl rfl) ?_
      refine VL.r (.inl rfl) rfl (by decide) (yr_pick_f rfl rfl rfl) ?_
      refine VL.r (.inl rfl) rfl (by decide) (yr_move rfl rfl) ?_
      refine VX.split 26 _ rfl (fun h5 => ?_) (fun h5 => ?_)
      · skip
        replace h5 := ic_neq h5
        refine VL.no rfl rfl rfl rfl rfl (by decide) ?_
        refine VL.no rfl rfl rfl rfl rfl (by decide) ?_
        refine VL.no rfl rfl rfl rfl rfl (by decide) ?_
        refine VL.no rfl rfl rfl rfl rfl (by decide) ?_
        refine VL.no rfl rfl rfl rfl rfl (by decide) ?_
        refine VL.no rfl rfl rfl rfl rfl (by decide) ?_
        refine VL.no rfl rfl rfl rfl rfl (by decide) ?_
        refine VL.r (.inl rfl) rfl (by decide) (yr_pick_t (u := .bool true) rfl rfl rfl) ?_
        refine VL.nil ?_
        refine VE.then_wp ?_
        refine V.condT rfl ?_
        refine V.seq ?_
        refine V.region ?_
        refine VL.r (.inl rfl) rfl (by decide) (yr_assign (u := .bool false) rfl rfl) ?_
        refine VL.nil ?_
        refine VE.then_wp ?_
        refine V.ret ?_
        refine VE.then_ret ?_
        refine ret1 rfl rfl (fun w1 hw => ?_)
        refine ⟨congrArg Value.bool (valid_no fun hv => ?_).symm, hw.below⟩
        obtain ⟨v1, v2, v3, v4, v5, v6, v7, v8⟩ := hv
        omega
      · skip
        replace h5 := ic_neq' h5
        refine VL.r (.inr ⟨_, _, _, rfl, rfl, rfl⟩) rfl (by decide) (yr_fieldAddr rfl Try.underlying27 rfl rfl sz24_Design (by decide) rfl) ?_
        refine VL.q (.inr ⟨_, _, _, rfl, rfl, rfl⟩) rfl (by decide) (yq_load rfl fb24_Design rfl (by first | exact Sees.root (by assumption) | exact Sees.own (by repeat (first | exact List.mem_cons_self | exact List.mem_append_left _ (by assumption) | apply List.mem_cons_of_mem | apply List.mem_append_right)) | exact Sees.root (hR _ (by omega)) | exact Sees.own (RowsIn.mem (by repeat (first | exact RowsIn.here | exact RowsIn.last | apply RowsIn.there | apply RowsIn.thereS)) _ (by omega)) | exact Sees.own (WRowsIn.mem (by repeat (first | exact WRowsIn.here | exact WRowsIn.last | apply WRowsIn.there | apply WRowsIn.thereS)) _ (by omega))) rfl) ?_
        refine VL.q (.inr ⟨_, _, _, rfl, rfl, rfl⟩) rfl (by decide) (yq_idx (k := 0) rfl Try.underlying24 sz25_Design rfl rfl (by first | exact Sees.root (by assumption) | exact Sees.own (by repeat (first | exact List.mem_cons_self | exact List.mem_append_left _ (by assumption) | apply List.mem_cons_of_mem | apply List.mem_append_right)) | exact Sees.root (hR _ (by omega)) | exact Sees.own (RowsIn.mem (by repeat (first | exact RowsIn.here | exact RowsIn.last | apply RowsIn.there | apply RowsIn.thereS)) _ (by omega)) | exact Sees.own (WRowsIn.mem (by repeat (first | exact WRowsIn.here | exact WRowsIn.last | apply WRowsIn.there | apply WRowsIn.thereS)) _ (by omega))) (by first | rfl | omega | (push_cast; rfl) | (push_cast; omega) | exact tmod_nat _ _) (by first | exact fl_length _ | exact hd_length _ _ | simp) (by omega)) ?_
        refine VL.q (.inr ⟨_, _, _, rfl, rfl, rfl⟩) rfl (by decide) (yq_loadH rfl fb25_Design rfl (by first | exact Sees.root (by assumption) | exact Sees.own (by repeat (first | exact List.mem_cons_self | exact List.mem_append_left _ (by assumption) | apply List.mem_cons_of_mem | apply List.mem_append_right)) | exact Sees.root (hR _ (by omega)) | exact Sees.own (RowsIn.mem (by repeat (first | exact RowsIn.here | exact RowsIn.last | apply RowsIn.there | apply RowsIn.thereS)) _ (by omega)) | exact Sees.own (WRowsIn.mem (by repeat (first | exact WRowsIn.here | exact WRowsIn.last | apply WRowsIn.there | apply WRowsIn.thereS)) _ (by omega))) (by omega)) ?_
        refine VL.r (.inr ⟨_, _, _, rfl, rfl, rfl⟩) rfl (by decide) (yr_len rfl Try.underlying25 rfl) ?_
        refine VL.q (.inr ⟨_, _, _, rfl, rfl, rfl⟩) rfl (by decide) (yq_callf rfl known35_Design (.cons rfl .nil) (fun w hw => c_isUnknowns _)) ?_
        refine VL.r (.inr ⟨_, _, _, rfl, rfl, rfl⟩) rfl (by decide) (yr_not rfl rfl) ?_
        refine VL.r (.inl rfl) rfl (by decide) (yr_pick_f rfl rfl rfl) ?_
        refine VL.nil ?_
        refine VE.then_wp ?_
        refine V.cond rfl (fun h7 => ?_) (fun h7 => ?_)
        · skip
          replace h7 := bnot_t h7
          replace h7 := of_decide_eq_false h7
          refine V.seq ?_
          refine V.region ?_
          refine VL.r (.inl rfl) rfl (by decide) (yr_assign (u := .bool false) rfl rfl) ?_
          refine VL.nil ?_
          refine VE.then_wp ?_
          refine V.ret ?_
          refine VE.then_ret ?_
          refine ret1 rfl rfl (fun w1 hw => ?_)
          refine ⟨congrArg Value.bool (valid_no fun hv => ?_).symm, hw.below⟩
          obtain ⟨v1, v2, v3, v4, v5, v6, v7, v8⟩ := hv
          omega
        · skip
          replace h7 := bnot_f h7
          replace h7 := of_decide_eq_true h7
          refine V.skip ?_
          refine VE.then_wp ?_
          refine V.seq ?_
          refine V.seq ?_
          refine V.region ?_
          refine VL.r (.inl rfl) rfl (by decide) (yr_fieldAddr rfl Try.underlying27 rfl rfl sz24_Design (by decide) rfl) ?_
          refine VL.q (.inl rfl) rfl (by decide) (yq_load rfl fb24_Design rfl (by first | exact Sees.root (by assumption) | exact Sees.own (by repeat (first | exact List.mem_cons_self | exact List.mem_append_left _ (by assumption) | apply List.mem_cons_of_mem | apply List.mem_append_right)) | exact Sees.root (hR _ (by omega)) | exact Sees.own (RowsIn.mem (by repeat (first | exact RowsIn.here | exact RowsIn.last | apply RowsIn.there | apply RowsIn.thereS)) _ (by omega)) | exact Sees.own (WRowsIn.mem (by repeat (first | exact WRowsIn.here | exact WRowsIn.last | apply WRowsIn.there | apply WRowsIn.thereS)) _ (by omega))) rfl) ?_
          refine VL.r (.inl rfl) rfl (by decide) (yr_func1 rfl rfl) ?_
          refine VL.q (.inl rfl) rfl (by decide) (yq_callf rfl known36_Design (.cons rfl (.cons rfl .nil)) (fun w hw => (c_hasR (p := fun k => !rowOk (xss.getD k []) (xss.getD 0 []).length) (by first | exact Sees.root (by assumption) w hw | exact Sees.own (by repeat (first | exact List.mem_cons_self | exact List.mem_append_left _ (by assumption) | apply List.mem_cons_of_mem | apply List.mem_append_right)) w hw) known37_Design (fun w1 hb k hk => c_vd1 ((hR.root hw k hk).below hb) (Cl.below (Sees.own (by repeat (first | exact List.mem_cons_self | apply List.mem_cons_of_mem | apply List.mem_append_right)) w hw) hb) ((Sees.root hA w hw).below hb) (by omega) (hr k hk)) (by omega)))) ?_
          refine VL.nil ?_
          refine VE.then_wp ?_
          refine V.cond rfl (fun h8 => ?_) (fun h8 => ?_)
          · skip
            obtain ⟨k, hk, hp⟩ := idxI_t h8
            replace hp := bnot_t hp
            refine V.seq ?_
            refine V.region ?_
            refine VL.r (.inl rfl) rfl (by decide) (yr_assign (u := .bool false) rfl rfl) ?_
            refine VL.nil ?_
            refine VE.then_wp ?_
            refine V.ret ?_
            refine VE.then_ret ?_
            refine ret1 rfl rfl (fun w1 hw => ?_)
            refine ⟨congrArg Value.bool (valid_no fun hv => ?_).symm, hw.below⟩
            obtain ⟨v1, v2, v3, v4, v5, v6, v7, v8⟩ := hv
            exact rowOk_f hp ⟨(v6 k hk).1, (v6 k hk).2.1⟩
          · skip
            replace h8 := fun k hk => bnot_f (idxI_f h8 k hk)
            refine V.skip ?_
            refine VE.then_wp ?_
            refine V.seq ?_
            refine V.region ?_
            refine VL.r (.inl rfl) rfl (by decide) (yr_fieldAddr rfl Try.underlying27 rfl rfl sz25_Design (by decide) rfl) ?_
            refine VL.q (.inl rfl) rfl (by decide) (yq_load rfl fb25_Design rfl (by first | exact Sees.root (by assumption) | exact Sees.own (by repeat (first | exact List.mem_cons_self | exact List.mem_append_left _ (by assumption) | apply List.mem_cons_of_mem | apply List.mem_append_right)) | exact Sees.root (hR _ (by omega)) | exact Sees.own (RowsIn.mem (by repeat (first | exact RowsIn.here | exact RowsIn.last | apply RowsIn.there | apply RowsIn.thereS)) _ (by omega)) | exact Sees.own (WRowsIn.mem (by repeat (first | exact WRowsIn.here | exact WRowsIn.last | apply WRowsIn.there | apply WRowsIn.thereS)) _ (by omega))) rfl) ?_
            refine VL.q (.inl rfl) rfl (by decide) (yq_callf rfl known38_Design (.cons rfl .nil) (fun w hw => (c_areFinite (by first | exact Sees.root (by assumption) w hw | exact Sees.own (by repeat (first | exact List.mem_cons_self | exact List.mem_append_left _ (by assumption) | apply List.mem_cons_of_mem | apply List.mem_append_right)) w hw) (by omega)))) ?_
            refine VL.r (.inl rfl) rfl (by decide) (yr_move rfl rfl) ?_
            refine VX.split 42 _ rfl (fun h9 => ?_) (fun h9 => ?_)
            · skip
              refine VL.r (.inr ⟨_, _, _, rfl, rfl, rfl⟩) rfl (by decide) (yr_fieldAddr rfl Try.underlying27 rfl rfl sz25_Design (by decide) rfl) ?_
              refine VL.q (.inr ⟨_, _, _, rfl, rfl, rfl⟩) rfl (by decide) (yq_load rfl fb25_Design rfl (by first | exact Sees.root (by assumption) | exact Sees.own (by repeat (first | exact List.mem_cons_self | exact List.mem_append_left _ (by assumption) | apply List.mem_cons_of_mem | apply List.mem_append_right)) | exact Sees.root (hR _ (by omega)) | exact Sees.own (RowsIn.mem (by repeat (first | exact RowsIn.here | exact RowsIn.last | apply RowsIn.there | apply RowsIn.thereS)) _ (by omega)) | exact Sees.own (WRowsIn.mem (by repeat (first | exact WRowsIn.here | exact WRowsIn.last | apply WRowsIn.there | apply WRowsIn.thereS)) _ (by omega))) rfl) ?_
              refine VL.q (.inr ⟨_, _, _, rfl, rfl, rfl⟩) rfl (by decide) (yq_callf rfl known39_Design (.cons rfl .nil) (fun w hw => (c_areNotNeg (by first | exact Sees.root (by assumption) w hw | exact Sees.own (by repeat (first | exact List.mem_cons_self | exact List.mem_append_left _ (by assumption) | apply List.mem_cons_of_mem | apply List.mem_append_right)) w hw) (by omega)))) ?_
              refine VL.r (.inl rfl) rfl (by decide) (yr_pick_t rfl rfl rfl) ?_
              refine VL.r (.inl rfl) rfl (by decide) (yr_assign rfl rfl) ?_
              refine VL.nil ?_
              refine VE.then_wp ?_
              refine V.ret ?_
              refine ret1 rfl rfl (fun w1 hw => ?_)
              refine ⟨congrArg Value.bool ?_, hw.below⟩
              have hrows := h8
              rw [Bool.eq_iff_iff]
              constructor
              · intro h
                have hl := all_getD.1 h
                exact valid_yes ⟨by omega, by omega, by omega, by omega, by assumption, fun i hi => ⟨(rowOk_t (hrows i hi)).1, (rowOk_t (hrows i hi)).2, hl i (by omega)⟩, by omega, by omega⟩
              · intro h
                obtain ⟨v1, v2, v3, v4, v5, v6, v7, v8⟩ := valid_is h
                exact all_getD.2 fun i hi => (v6 i (by omega)).2.2
            · skip
              refine VL.no rfl rfl rfl rfl rfl (by decide) ?_
              refine VL.no rfl rfl rfl rfl rfl (by decide) ?_
              refine VL.no rfl rfl rfl rfl rfl (by decide) ?_
              refine VL.r (.inl rfl) rfl (by decide) (yr_pick_f (u := .bool false) rfl rfl rfl) ?_
              refine VL.r (.inl rfl) rfl (by decide) (yr_assign rfl rfl) ?_
              refine VL.nil ?_
              refine VE.then_wp ?_
              refine V.ret ?_
              refine ret1 rfl rfl (fun w1 hw => ?_)
              refine ⟨congrArg Value.bool (valid_no fun hv => ?_).symm, hw.below⟩
              obtain ⟨v1, v2, v3, v4, v5, v6, v7, v8⟩ := hv
              simp_all

end Go.Proofs.Ytalimcjmaoapkaa

