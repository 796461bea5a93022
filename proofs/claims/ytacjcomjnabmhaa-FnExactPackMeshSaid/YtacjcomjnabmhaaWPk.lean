/- Walks: Pk. Printed by gen.py. -/
import Derived.Test.YtacjcomjnabmhaaWPkM
import Derived.Test.YtacjcomjnabmhaaWPkS
import Derived.KernelRfl
namespace Go.Proofs.Ytacjcomjnabmhaa
open Go.RowKit
set_option linter.unusedVariables false
set_option linter.unusedSimpArgs false
set_option maxRecDepth 20000

theorem sz35_Pk : (Try.prog.info? 35).map (·.size) = some 8 := by kernel_rfl
theorem known66_Pk : Known Try.prog 66 := Known.mk' Try.func66 (by kernel_rfl)
theorem known75_Pk : Known Try.prog 75 := Known.mk' Try.func75 (by kernel_rfl)
theorem known62_Pk : Known Try.prog 62 := Known.mk' Try.func62 (by kernel_rfl)
theorem known74_Pk : Known Try.prog 74 := Known.mk' Try.func74 (by kernel_rfl)
theorem sz27_Pk : (Try.prog.info? 27).map (·.size) = some 8 := by kernel_rfl
theorem known14_Pk : Known Try.prog 14 := Known.mk' Try.func14 (by kernel_rfl)
theorem known16_Pk : Known Try.prog 16 := Known.mk' Try.func16 (by kernel_rfl)
theorem known23_Pk : Known Try.prog 23 := Known.mk' Try.func23 (by kernel_rfl)
theorem zero35_Pk : (Try.prog.info? 35).bind (·.zero) = some (Value.agg #[Value.float .f32 0, Value.float .f32 0, Value.float .f32 0, Value.float .f32 0, Value.int .i64 0, Value.int .i64 0, Value.int .i64 0, Value.slice none 0 0]) := by kernel_rfl
theorem known24_Pk : Known Try.prog 24 := Known.mk' Try.func24 (by kernel_rfl)
theorem mixed_Pk : Try.prog.follows .mixedOrders = true := by kernel_rfl
theorem known19_Pk : Known Try.prog 19 := Known.mk' Try.func19 (by kernel_rfl)
attribute [local irreducible] fop fcmp fconv fneg fabs List.getD pkT pkOk allF

theorem c_implPM {w : World} {f1 f2 f3 st : Nat} {wi hi de : Int} {a : Option Addr} {c : Nat} {vs : List V3} (hA : Cl w a (vl vs)) (hX : Cans3 vs) (hf : Can3 (f1, f2, f3)) (hst : Can .f32 st) : Pure Try.prog 24 [.agg #[.float .f32 f1, .float .f32 f2, .float .f32 f3, .float .f32 st, .int .i64 wi, .int .i64 hi, .int .i64 de, .slice a vs.length c]] w (.tuple #[.string (pkT (f1, f2, f3) st wi hi de vs), .bool (pkOk (f1, f2, f3) st wi hi de vs)]) := by
  refine Pure.enter Try.func24 rfl Try.ntmps24 (Nat.le_of_ble_eq_true rfl) ?_
  refine V.seq ?_
  refine V.region ?_
  refine VL.new1 (.inl rfl) rfl (by decide) (yn_box rfl rfl (.inr ⟨rfl, rfl⟩)) ?_
  intro b1
  refine VL.r (.inl rfl) rfl (by decide) (yr_assign rfl rfl) ?_
  refine VL.r (.inl rfl) rfl (by decide) (yr_assign (u := .bool false) rfl rfl) ?_
  refine VL.nil ?_
  refine VE.then_wp ?_
  refine V.seq ?_
  refine V.seq ?_
  refine V.region ?_
  refine VL.q (.inl rfl) rfl (by decide) (yq_loadS rfl Try.underlying35 sz35_Pk rfl (by first | exact Sees.root (by assumption) | exact Sees.own (by repeat (first | exact List.mem_cons_self | exact List.mem_append_left _ (by assumption) | apply List.mem_cons_of_mem | apply List.mem_append_right)) | exact Sees.root (hR _ (by omega)) | exact Sees.own (RowsIn.mem (by repeat (first | exact RowsIn.here | exact RowsIn.last | apply RowsIn.there | apply RowsIn.thereS)) _ (by omega)) | exact Sees.own (WRowsIn.mem (by repeat (first | exact WRowsIn.here | exact WRowsIn.last | apply WRowsIn.there | apply WRowsIn.thereS)) _ (by omega))) rfl rfl rfl) ?_
  refine VL.q (.inl rfl) rfl (by decide) (yq_callf rfl known66_Pk (.cons rfl .nil) (fun w hw => c_implMesh)) ?_
  refine VL.r (.inl rfl) rfl (by decide) (yr_not rfl rfl) ?_
  refine VL.nil ?_
  refine VE.then_wp ?_
  refine V.cond rfl (fun h1 => ?_) (fun h1 => ?_)
  · skip
    replace h1 := bnot_t h1
    refine V.seq ?_
    refine V.region ?_
    refine VL.r (.inl rfl) rfl (by decide) (yr_assign rfl rfl) ?_
    refine VL.r (.inl rfl) rfl (by decide) (yr_assign (u := .bool false) rfl rfl) ?_
    refine VL.nil ?_
    refine VE.then_wp ?_
    refine V.ret ?_
    refine VE.then_ret ?_
    refine ret2 rfl rfl rfl (by nofun) (by nofun) (fun w1 hw => ?_)
    first
      | exact ⟨by rw [← e1, ← e2]; rfl, hw.below⟩
      | (have hs : pkOk (f1, f2, f3) st wi hi de vs = false := pk_no1 (by assumption)
         exact ⟨by rw [pkT_no hs, hs]; rfl, hw.below⟩)
  · skip
    replace h1 := bnot_f h1
    have hok : meshOk (f1, f2, f3) st wi hi de vs.length = true := h1
    have hvl : vs.length ≤ 1000 := by
      obtain ⟨W, H, D, _, _, _, _, _, hbd, hN⟩ := mesh_open hok
      omega
    obtain ⟨e1, e2⟩ := pk_val hok
    refine V.skip ?_
    refine VE.then_wp ?_
    refine V.seq ?_
    refine V.region ?_
    refine VL.q (.inl rfl) rfl (by decide) (yq_loadS rfl Try.underlying35 sz35_Pk rfl (by first | exact Sees.root (by assumption) | exact Sees.own (by repeat (first | exact List.mem_cons_self | exact List.mem_append_left _ (by assumption) | apply List.mem_cons_of_mem | apply List.mem_append_right)) | exact Sees.root (hR _ (by omega)) | exact Sees.own (RowsIn.mem (by repeat (first | exact RowsIn.here | exact RowsIn.last | apply RowsIn.there | apply RowsIn.thereS)) _ (by omega)) | exact Sees.own (WRowsIn.mem (by repeat (first | exact WRowsIn.here | exact WRowsIn.last | apply WRowsIn.there | apply WRowsIn.thereS)) _ (by omega))) rfl rfl rfl) ?_
    refine VL.q (.inl rfl) rfl (by decide) (yq_callf rfl known75_Pk (.cons rfl .nil) (fun w hw => (c_implPack (by first | exact Sees.root (by assumption) w hw | exact Sees.own (by repeat (first | exact List.mem_cons_self | exact List.mem_append_left _ (by assumption) | apply List.mem_cons_of_mem | apply List.mem_append_right)) w hw) hX hf hst hvl))) ?_
    refine VL.r (.inl rfl) rfl (by decide) (yr_extract rfl rfl rfl (by nofun)) ?_
    refine VL.r (.inl rfl) rfl (by decide) (yr_extract rfl rfl rfl (by nofun)) ?_
    refine VL.r (.inl rfl) rfl (by decide) (yr_assign rfl rfl) ?_
    refine VL.r (.inl rfl) rfl (by decide) (yr_assign rfl rfl) ?_
    refine VL.nil ?_
    refine VE.then_wp ?_
    refine V.ret ?_
    refine ret2 rfl rfl rfl (by nofun) (by nofun) (fun w1 hw => ?_)
    first
      | exact ⟨by rw [← e1, ← e2]; rfl, hw.below⟩
      | (have hs : pkOk (f1, f2, f3) st wi hi de vs = false := pk_no1 (by assumption)
         exact ⟨by rw [pkT_no hs, hs]; rfl, hw.below⟩)

theorem c_specPM {w : World} {f1 f2 f3 st : Nat} {wi hi de : Int} {a : Option Addr} {c : Nat} {vs : List V3} (hA : Cl w a (vl vs)) (hX : Cans3 vs) (hf : Can3 (f1, f2, f3)) (hst : Can .f32 st) : Pure Try.prog 23 [.agg #[.float .f32 f1, .float .f32 f2, .float .f32 f3, .float .f32 st, .int .i64 wi, .int .i64 hi, .int .i64 de, .slice a vs.length c]] w (.tuple #[.string (pkT (f1, f2, f3) st wi hi de vs), .bool (pkOk (f1, f2, f3) st wi hi de vs)]) := by
  refine Pure.enter Try.func23 rfl Try.ntmps23 (Nat.le_of_ble_eq_true rfl) ?_
  refine V.seq ?_
  refine V.region ?_
  refine VL.new1 (.inl rfl) rfl (by decide) (yn_box rfl rfl (.inr ⟨rfl, rfl⟩)) ?_
  intro b1
  refine VL.r (.inl rfl) rfl (by decide) (yr_assign rfl rfl) ?_
  refine VL.r (.inl rfl) rfl (by decide) (yr_assign (u := .bool false) rfl rfl) ?_
  refine VL.nil ?_
  refine VE.then_wp ?_
  refine V.seq ?_
  refine V.seq ?_
  refine V.region ?_
  refine VL.q (.inl rfl) rfl (by decide) (yq_callf rfl known62_Pk (.cons rfl .nil) (fun w hw => (c_l06Is (by first | exact Sees.root (by assumption) w hw | exact Sees.own (by repeat (first | exact List.mem_cons_self | exact List.mem_append_left _ (by assumption) | apply List.mem_cons_of_mem | apply List.mem_append_right)) w hw)))) ?_
  refine VL.r (.inl rfl) rfl (by decide) (yr_not rfl rfl) ?_
  refine VL.nil ?_
  refine VE.then_wp ?_
  refine V.cond rfl (fun h1 => ?_) (fun h1 => ?_)
  · skip
    replace h1 := bnot_t h1
    refine V.seq ?_
    refine V.region ?_
    refine VL.r (.inl rfl) rfl (by decide) (yr_assign rfl rfl) ?_
    refine VL.r (.inl rfl) rfl (by decide) (yr_assign (u := .bool false) rfl rfl) ?_
    refine VL.nil ?_
    refine VE.then_wp ?_
    refine V.ret ?_
    refine VE.then_ret ?_
    refine ret2 rfl rfl rfl (by nofun) (by nofun) (fun w1 hw => ?_)
    first
      | exact ⟨by rw [← e1, ← e2]; rfl, hw.below⟩
      | (have hs : pkOk (f1, f2, f3) st wi hi de vs = false := pk_no1 (by assumption)
         exact ⟨by rw [pkT_no hs, hs]; rfl, hw.below⟩)
  · skip
    replace h1 := bnot_f h1
    have hok : meshOk (f1, f2, f3) st wi hi de vs.length = true := h1
    have hvl : vs.length ≤ 1000 := by
      obtain ⟨W, H, D, _, _, _, _, _, hbd, hN⟩ := mesh_open hok
      omega
    obtain ⟨e1, e2⟩ := pk_val hok
    refine V.skip ?_
    refine VE.then_wp ?_
    refine V.seq ?_
    refine V.region ?_
    refine VL.q (.inl rfl) rfl (by decide) (yq_callf rfl known74_Pk (.cons rfl .nil) (fun w hw => (c_specPack (by first | exact Sees.root (by assumption) w hw | exact Sees.own (by repeat (first | exact List.mem_cons_self | exact List.mem_append_left _ (by assumption) | apply List.mem_cons_of_mem | apply List.mem_append_right)) w hw) (by first | exact Sees.root (by assumption) w hw | exact Sees.own (by repeat (first | exact List.mem_cons_self | exact List.mem_append_left _ (by assumption) | apply List.mem_cons_of_mem | apply List.mem_append_right)) w hw) hX hf hst hvl))) ?_
    refine VL.r (.inl rfl) rfl (by decide) (yr_extract rfl rfl rfl (by nofun)) ?_
    refine VL.r (.inl rfl) rfl (by decide) (yr_extract rfl rfl rfl (by nofun)) ?_
    refine VL.r (.inl rfl) rfl (by decide) (yr_assign rfl rfl) ?_
    refine VL.r (.inl rfl) rfl (by decide) (yr_assign rfl rfl) ?_
    refine VL.nil ?_
    refine VE.then_wp ?_
    refine V.ret ?_
    refine ret2 rfl rfl rfl (by nofun) (by nofun) (fun w1 hw => ?_)
    first
      | exact ⟨by rw [← e1, ← e2]; rfl, hw.below⟩
      | (have hs : pkOk (f1, f2, f3) st wi hi de vs = false := pk_no1 (by assumption)
         exact ⟨by rw [pkT_no hs, hs]; rfl, hw.below⟩)

theorem law_PackMesh {w : World} {f1 f2 f3 st : Nat} {wi hi de : Int} {a : Option Addr} {c : Nat} {vs : List V3} (hA : Cl w a (vl vs)) (hX : Cans3 vs) (hm : vs.length ≤ 9223372036854775807) (hf : Can3 (f1, f2, f3)) (hst : Can .f32 st) : Pure Try.prog 4 [.agg #[.float .f32 f1, .float .f32 f2, .float .f32 f3, .float .f32 st, .int .i64 wi, .int .i64 hi, .int .i64 de, .slice a vs.length c]] w (.bool true) := by
  refine Pure.enter Try.func4 rfl Try.ntmps4 (Nat.le_of_ble_eq_true rfl) ?_
  refine V.seq ?_
  refine V.region ?_
  refine VL.new1 (.inl rfl) rfl (by decide) (yn_box rfl rfl (.inr ⟨rfl, rfl⟩)) ?_
  intro b1
  refine VL.r (.inl rfl) rfl (by decide) (yr_assign (u := .bool false) rfl rfl) ?_
  refine VL.nil ?_
  refine VE.then_wp ?_
  refine V.seq ?_
  refine V.region ?_
  refine VL.r (.inl rfl) rfl (by decide) (yr_assign (u := .int .i64 1048576) rfl rfl) ?_
  refine VL.nil ?_
  refine VE.then_wp ?_
  refine V.seq ?_
  refine V.region ?_
  refine VL.q (.inl rfl) rfl (by decide) (yq_loadS rfl Try.underlying27 sz27_Pk rfl (by first | exact Sees.root (by assumption) | exact Sees.own (by repeat (first | exact List.mem_cons_self | exact List.mem_append_left _ (by assumption) | apply List.mem_cons_of_mem | apply List.mem_append_right)) | exact Sees.root (hR _ (by omega)) | exact Sees.own (RowsIn.mem (by repeat (first | exact RowsIn.here | exact RowsIn.last | apply RowsIn.there | apply RowsIn.thereS)) _ (by omega)) | exact Sees.own (WRowsIn.mem (by repeat (first | exact WRowsIn.here | exact WRowsIn.last | apply WRowsIn.there | apply WRowsIn.thereS)) _ (by omega))) rfl rfl rfl) ?_
  refine VL.r (.inl rfl) rfl (by decide) (yr_move rfl rfl) ?_
  refine VL.q (.inl rfl) rfl (by decide) (yq_callf rfl known14_Pk (.cons rfl (.cons rfl .nil)) (fun w hw => (c_szMesh (by omega) (by omega) (by omega)))) ?_
  refine VL.r (.inl rfl) rfl (by decide) (yr_assign rfl rfl) ?_
  refine VL.nil ?_
  refine VE.then_wp ?_
  refine V.seq ?_
  refine V.seq ?_
  refine V.region ?_
  refine VL.r (.inl rfl) rfl (by decide) (yr_move rfl rfl) ?_
  refine VL.r (.inl rfl) rfl (by decide) (yr_icmp rfl (.inr (.inr (.inl rfl))) rfl rfl) ?_
  refine VL.nil ?_
  refine VE.then_wp ?_
  refine V.cond rfl (fun h1 => ?_) (fun h1 => ?_)
  · skip
    replace h1 := ic_lss h1
    refine V.seq ?_
    refine V.region ?_
    refine VL.r (.inl rfl) rfl (by decide) (yr_assign (u := .bool true) rfl rfl) ?_
    refine VL.nil ?_
    refine VE.then_wp ?_
    refine V.ret ?_
    refine VE.then_ret ?_
    refine ret1 rfl rfl (fun w1 hw => ?_)
    exact ⟨rfl, hw.below⟩
  · skip
    replace h1 := ic_lss' h1
    have hsz := szOf_fits h1
    refine V.skip ?_
    refine VE.then_wp ?_
    refine V.seq ?_
    refine V.region ?_
    refine VL.q (.inl rfl) rfl (by decide) (yq_loadS rfl Try.underlying27 sz27_Pk rfl (by first | exact Sees.root (by assumption) | exact Sees.own (by repeat (first | exact List.mem_cons_self | exact List.mem_append_left _ (by assumption) | apply List.mem_cons_of_mem | apply List.mem_append_right)) | exact Sees.root (hR _ (by omega)) | exact Sees.own (RowsIn.mem (by repeat (first | exact RowsIn.here | exact RowsIn.last | apply RowsIn.there | apply RowsIn.thereS)) _ (by omega)) | exact Sees.own (WRowsIn.mem (by repeat (first | exact WRowsIn.here | exact WRowsIn.last | apply WRowsIn.there | apply WRowsIn.thereS)) _ (by omega))) rfl rfl rfl) ?_
    refine VL.new1 (.inl rfl) rfl (by decide) (yn_callf rfl known16_Pk (.cons rfl .nil) (fun w hw => (c_toMesh (by first | exact Sees.root (by assumption) w hw | exact Sees.own (by repeat (first | exact List.mem_cons_self | exact List.mem_append_left _ (by assumption) | apply List.mem_cons_of_mem | apply List.mem_append_right)) w hw) (by omega)))) ?_
    intro b16
    refine VL.q (.inl rfl) rfl (by decide) (yq_callf rfl known23_Pk (.cons rfl .nil) (fun w hw => (c_specPM (by first | exact Sees.root (by assumption) w hw | exact Sees.own (by repeat (first | exact List.mem_cons_self | exact List.mem_append_left _ (by assumption) | apply List.mem_cons_of_mem | apply List.mem_append_right)) w hw) hX hf hst))) ?_
    refine VL.r (.inl rfl) rfl (by decide) (yr_move rfl rfl) ?_
    refine VL.r (.inl rfl) rfl (by decide) (yr_extract rfl rfl rfl (by nofun)) ?_
    refine VL.r (.inl rfl) rfl (by decide) (yr_extract rfl rfl rfl (by nofun)) ?_
    refine VL.r (.inl rfl) rfl (by decide) (yr_assign rfl rfl) ?_
    refine VL.r (.inl rfl) rfl (by decide) (yr_assign rfl rfl) ?_
    refine VL.nil ?_
    refine VE.then_wp ?_
    refine V.seq ?_
    refine V.region ?_
    refine VL.q (.inl rfl) rfl (by decide) (yq_loadS rfl Try.underlying27 sz27_Pk rfl (by first | exact Sees.root (by assumption) | exact Sees.own (by repeat (first | exact List.mem_cons_self | exact List.mem_append_left _ (by assumption) | apply List.mem_cons_of_mem | apply List.mem_append_right)) | exact Sees.root (hR _ (by omega)) | exact Sees.own (RowsIn.mem (by repeat (first | exact RowsIn.here | exact RowsIn.last | apply RowsIn.there | apply RowsIn.thereS)) _ (by omega)) | exact Sees.own (WRowsIn.mem (by repeat (first | exact WRowsIn.here | exact WRowsIn.last | apply WRowsIn.there | apply WRowsIn.thereS)) _ (by omega))) rfl rfl rfl) ?_
    refine VL.new1 (.inl rfl) rfl (by decide) (yn_callf rfl known16_Pk (.cons rfl .nil) (fun w hw => (c_toMesh (by first | exact Sees.root (by assumption) w hw | exact Sees.own (by repeat (first | exact List.mem_cons_self | exact List.mem_append_left _ (by assumption) | apply List.mem_cons_of_mem | apply List.mem_append_right)) w hw) (by omega)))) ?_
    intro b21
    refine VL.new1 (.inl rfl) rfl (by decide) (yn_alloc rfl zero35_Pk rfl) ?_
    intro b6
    refine VL.s (.inl rfl) rfl (yc_store rfl sz35_Pk rfl rfl (by repeat (first | exact UpdF.here | apply UpdF.there | apply UpdF.thereS)) (.inr ⟨rfl, rfl⟩) rfl (by first | exact Nat.le_of_ble_eq_true rfl | simp) (by decide) rfl) ?_
    rintro ⟨⟩
    refine VL.nil ?_
    refine VE.then_wp ?_
    refine V.seq ?_
    refine V.region ?_
    refine VL.q (.inl rfl) rfl (by decide) (yq_loadS rfl Try.underlying35 sz35_Pk rfl (by first | exact Sees.root (by assumption) | exact Sees.own (by repeat (first | exact List.mem_cons_self | exact List.mem_append_left _ (by assumption) | apply List.mem_cons_of_mem | apply List.mem_append_right)) | exact Sees.root (hR _ (by omega)) | exact Sees.own (RowsIn.mem (by repeat (first | exact RowsIn.here | exact RowsIn.last | apply RowsIn.there | apply RowsIn.thereS)) _ (by omega)) | exact Sees.own (WRowsIn.mem (by repeat (first | exact WRowsIn.here | exact WRowsIn.last | apply WRowsIn.there | apply WRowsIn.thereS)) _ (by omega))) rfl rfl rfl) ?_
    refine VL.q (.inl rfl) rfl (by decide) (yq_callf rfl known24_Pk (.cons rfl .nil) (fun w hw => (c_implPM (by first | exact Sees.root (by assumption) w hw | exact Sees.own (by repeat (first | exact List.mem_cons_self | exact List.mem_append_left _ (by assumption) | apply List.mem_cons_of_mem | apply List.mem_append_right)) w hw) hX hf hst))) ?_
    refine VL.r (.inl rfl) rfl (by decide) (yr_move rfl rfl) ?_
    refine VL.r (.inl rfl) rfl (by decide) (yr_extract rfl rfl rfl (by nofun)) ?_
    refine VL.r (.inl rfl) rfl (by decide) (yr_extract rfl rfl rfl (by nofun)) ?_
    refine VL.r (.inl rfl) rfl (by decide) (yr_assign rfl rfl) ?_
    refine VL.r (.inl rfl) rfl (by decide) (yr_assign rfl rfl) ?_
    refine VL.nil ?_
    refine VE.then_wp ?_
    refine V.seq ?_
    refine V.seq ?_
    refine V.region ?_
    refine VL.r (.inl rfl) rfl (by decide) (yr_move rfl rfl) ?_
    refine VL.r (.inl rfl) rfl (by decide) (yr_move rfl rfl) ?_
    refine VL.r (.inl rfl) rfl (by decide) (yr_scmp rfl rfl rfl (.inr rfl)) ?_
    refine VL.r (.inl rfl) rfl (by decide) (yr_move rfl rfl) ?_
    refine VX.split 30 _ rfl (fun h2 => ?_) (fun h2 => ?_)
    · skip
      first | (exfalso; omega) | (simp [bcmp] at h2; done)
    · skip
      refine VL.r (.inr ⟨_, _, _, rfl, rfl, rfl⟩) rfl (by decide) (yr_move rfl rfl) ?_
      refine VL.r (.inr ⟨_, _, _, rfl, rfl, rfl⟩) rfl (by decide) (yr_move rfl rfl) ?_
      refine VL.r (.inr ⟨_, _, _, rfl, rfl, rfl⟩) rfl (by decide) (yr_bcmp rfl Try.underlying4 rfl rfl (.inr rfl)) ?_
      refine VL.r (.inl rfl) rfl (by decide) (yr_pick_f rfl rfl rfl) ?_
      refine VL.nil ?_
      refine VE.then_wp ?_
      refine V.cond rfl (fun h3 => ?_) (fun h3 => ?_)
      · skip
        first | (exfalso; omega) | (simp [bcmp] at h3; done)
      · skip
        refine V.skip ?_
        refine VE.then_wp ?_
        refine V.seq ?_
        refine V.seq ?_
        refine V.draw [(0, 0), (1, 0), (2, 1), (3, 0), (4, 0)] mixed_Pk (by kernel_rfl) (by intro j o hj; simp at hj) ?_
        refine SW.q rfl (.inl rfl) rfl (by decide) (yq_loadS rfl Try.underlying35 sz35_Pk rfl (by first | exact Sees.root (by assumption) | exact Sees.own (by repeat (first | exact List.mem_cons_self | exact List.mem_append_left _ (by assumption) | apply List.mem_cons_of_mem | apply List.mem_append_right)) | exact Sees.root (hR _ (by omega)) | exact Sees.own (RowsIn.mem (by repeat (first | exact RowsIn.here | exact RowsIn.last | apply RowsIn.there | apply RowsIn.thereS)) _ (by omega)) | exact Sees.own (WRowsIn.mem (by repeat (first | exact WRowsIn.here | exact WRowsIn.last | apply WRowsIn.there | apply WRowsIn.thereS)) _ (by omega))) rfl rfl rfl) ?_
        refine SW.q rfl (.inl rfl) rfl (by decide) (yq_loadS rfl Try.underlying27 sz27_Pk rfl (by first | exact Sees.root (by assumption) | exact Sees.own (by repeat (first | exact List.mem_cons_self | exact List.mem_append_left _ (by assumption) | apply List.mem_cons_of_mem | apply List.mem_append_right)) | exact Sees.root (hR _ (by omega)) | exact Sees.own (RowsIn.mem (by repeat (first | exact RowsIn.here | exact RowsIn.last | apply RowsIn.there | apply RowsIn.thereS)) _ (by omega)) | exact Sees.own (WRowsIn.mem (by repeat (first | exact WRowsIn.here | exact WRowsIn.last | apply WRowsIn.there | apply WRowsIn.thereS)) _ (by omega))) rfl rfl rfl) ?_
        refine SW.new1 rfl (.inl rfl) rfl (by decide) (yn_callf rfl known16_Pk (.cons rfl .nil) (fun w hw => (c_toMesh (by first | exact Sees.root (by assumption) w hw | exact Sees.own (by repeat (first | exact List.mem_cons_self | exact List.mem_append_left _ (by assumption) | apply List.mem_cons_of_mem | apply List.mem_append_right)) w hw) (by omega)))) ?_
        intro b37
        refine SW.q rfl (.inl rfl) rfl (by decide) (yq_callf rfl known19_Pk (.cons rfl (.cons rfl .nil)) (fun w hw => (c_eqMesh (by first | exact Sees.root (by assumption) w hw | exact Sees.own (by repeat (first | exact List.mem_cons_self | exact List.mem_append_left _ (by assumption) | apply List.mem_cons_of_mem | apply List.mem_append_right)) w hw) (by first | exact Sees.root (by assumption) w hw | exact Sees.own (by repeat (first | exact List.mem_cons_self | exact List.mem_append_left _ (by assumption) | apply List.mem_cons_of_mem | apply List.mem_append_right)) w hw) (by assumption) (by assumption) (by assumption) (by assumption) (by assumption) (by assumption) (by omega)))) ?_
        refine SW.r rfl (.inl rfl) rfl (by decide) (yr_not rfl rfl) ?_
        refine SW.done ?_
        refine VE.then_wp ?_
        refine V.cond rfl (fun h4 => ?_) (fun h4 => ?_)
        · skip
          replace h4 := bnot_t h4
          first | (exfalso; omega) | (simp [bcmp] at h4; done)
        · skip
          replace h4 := bnot_f h4
          refine V.skip ?_
          refine VE.then_wp ?_
          refine V.seq ?_
          refine V.region ?_
          refine VL.r (.inl rfl) rfl (by decide) (yr_assign (u := .bool true) rfl rfl) ?_
          refine VL.nil ?_
          refine VE.then_wp ?_
          refine V.ret ?_
          refine ret1 rfl rfl (fun w1 hw => ?_)
          exact ⟨rfl, hw.below⟩

end Go.Proofs.Ytacjcomjnabmhaa
