/- Walks: Desk. Printed by gen.py. -/
import Derived.Test.YtacjcomjnabmhaaWField
import Derived.Test.YtacjcomjnabmhaaWRows
import Derived.Test.YtacjcomjnabmhaaWIn
import Derived.Test.YtacjcomjnabmhaaDesk
import Derived.KernelRfl
namespace Go.Proofs.Ytacjcomjnabmhaa
open Go.RowKit
set_option linter.unusedVariables false
set_option linter.unusedSimpArgs false
set_option maxRecDepth 20000

theorem sz29_Desk : (Try.prog.info? 29).map (·.size) = some 1 := by kernel_rfl
theorem fb29_Desk : flatB Try.prog 29 = true := by kernel_rfl
theorem mixed_Desk : Try.prog.follows .mixedOrders = true := by kernel_rfl
theorem sz60_Desk : (Try.prog.info? 60).map (·.size) = some 3 := by kernel_rfl
theorem known176_Desk : Known Try.prog 176 := Known.mk' Try.func176 (by kernel_rfl)
theorem sz22_Desk : (Try.prog.info? 22).map (·.size) = some 1 := by kernel_rfl
theorem fb22_Desk : flatB Try.prog 22 = true := by kernel_rfl
theorem known164_Desk : Known Try.prog 164 := Known.mk' Try.func164 (by kernel_rfl)
theorem known71_Desk : Known Try.prog 71 := Known.mk' Try.func71 (by kernel_rfl)
theorem known177_Desk : Known Try.prog 177 := Known.mk' Try.func177 (by kernel_rfl)
theorem known159_Desk : Known Try.prog 159 := Known.mk' Try.func159 (by kernel_rfl)
theorem known64_Desk : Known Try.prog 64 := Known.mk' Try.func64 (by kernel_rfl)
theorem zero32_Desk : (Try.prog.info? 32).bind (·.zero) = some (Value.agg #[Value.float .f32 0, Value.float .f32 0, Value.float .f32 0]) := by kernel_rfl
theorem sz32_Desk : (Try.prog.info? 32).map (·.size) = some 3 := by kernel_rfl
theorem known138_Desk : Known Try.prog 138 := Known.mk' Try.func138 (by kernel_rfl)
theorem known137_Desk : Known Try.prog 137 := Known.mk' Try.func137 (by kernel_rfl)
theorem lay32_Desk : Lay Try.prog 32 [Value.float .f32 0, Value.float .f32 0, Value.float .f32 0] [(0, 1), (1, 1), (2, 1)] := Lay.mk' (by kernel_rfl) (by kernel_rfl)
theorem known221_Desk : Known Try.prog 221 := Known.mk' Try.func221 (by kernel_rfl)
theorem known217_Desk : Known Try.prog 217 := Known.mk' Try.func217 (by kernel_rfl)
theorem known132_Desk : Known Try.prog 132 := Known.mk' Try.func132 (by kernel_rfl)
theorem known131_Desk : Known Try.prog 131 := Known.mk' Try.func131 (by kernel_rfl)
theorem known231_Desk : Known Try.prog 231 := Known.mk' Try.func231 (by kernel_rfl)
theorem known214_Desk : Known Try.prog 214 := Known.mk' Try.func214 (by kernel_rfl)
theorem sz183_Desk : (Try.prog.info? 183).map (·.size) = some 4 := by kernel_rfl
theorem zero183_Desk : (Try.prog.info? 183).bind (·.zero) = some (Value.agg #[Value.float .f32 0, Value.float .f32 0, Value.float .f32 0, Value.float .f32 0]) := by kernel_rfl
theorem known194_Desk : Known Try.prog 194 := Known.mk' Try.func194 (by kernel_rfl)
theorem known143_Desk : Known Try.prog 143 := Known.mk' Try.func143 (by kernel_rfl)
theorem known220_Desk : Known Try.prog 220 := Known.mk' Try.func220 (by kernel_rfl)
theorem known179_Desk : Known Try.prog 179 := Known.mk' Try.func179 (by kernel_rfl)
theorem sz57_Desk : (Try.prog.info? 57).map (·.size) = some 1 := by kernel_rfl
theorem fb57_Desk : flatB Try.prog 57 = true := by kernel_rfl
theorem known112_Desk : Known Try.prog 112 := Known.mk' Try.func112 (by kernel_rfl)
theorem sz58_Desk : (Try.prog.info? 58).map (·.size) = some 1 := by kernel_rfl
theorem fb58_Desk : flatB Try.prog 58 = true := by kernel_rfl
theorem known113_Desk : Known Try.prog 113 := Known.mk' Try.func113 (by kernel_rfl)
theorem known114_Desk : Known Try.prog 114 := Known.mk' Try.func114 (by kernel_rfl)
theorem known116_Desk : Known Try.prog 116 := Known.mk' Try.func116 (by kernel_rfl)
theorem known170_Desk : Known Try.prog 170 := Known.mk' Try.func170 (by kernel_rfl)
theorem known171_Desk : Known Try.prog 171 := Known.mk' Try.func171 (by kernel_rfl)
theorem known109_Desk : Known Try.prog 109 := Known.mk' Try.func109 (by kernel_rfl)
theorem known125_Desk : Known Try.prog 125 := Known.mk' Try.func125 (by kernel_rfl)
theorem sz62_Desk : (Try.prog.info? 62).map (·.size) = some 5 := by kernel_rfl
theorem known42_Desk : Known Try.prog 42 := Known.mk' Try.func42 (by kernel_rfl)
theorem known142_Desk : Known Try.prog 142 := Known.mk' Try.func142 (by kernel_rfl)
theorem known144_Desk : Known Try.prog 144 := Known.mk' Try.func144 (by kernel_rfl)
theorem known117_Desk : Known Try.prog 117 := Known.mk' Try.func117 (by kernel_rfl)
theorem known121_Desk : Known Try.prog 121 := Known.mk' Try.func121 (by kernel_rfl)
theorem known193_Desk : Known Try.prog 193 := Known.mk' Try.func193 (by kernel_rfl)
theorem known141_Desk : Known Try.prog 141 := Known.mk' Try.func141 (by kernel_rfl)
attribute [local irreducible] fop fcmp fconv sqrt32 fneg segF fieldS fieldI List.getD circOk

theorem c_size {w : World} {a1 a2 a3 : Option Addr} {c1 c2 c3 : Nat} {xs ys zs : List Nat} : Pure Try.prog 176 [.agg #[.slice a1 xs.length c1, .slice a2 ys.length c2, .slice a3 zs.length c3]] w (.int .i64 (xs.length : Int)) := by
  refine Pure.enter Try.func176 rfl Try.ntmps176 (Nat.le_of_ble_eq_true rfl) ?_
  refine V.seq ?_
  refine V.region ?_
  refine VL.new1 (.inl rfl) rfl (by decide) (yn_box rfl rfl (.inr ⟨rfl, rfl⟩)) ?_
  intro b1
  refine VL.r (.inl rfl) rfl (by decide) (yr_assign (u := .int .i64 0) rfl rfl) ?_
  refine VL.nil ?_
  refine VE.then_wp ?_
  refine V.seq ?_
  refine V.region ?_
  refine VL.r (.inl rfl) rfl (by decide) (yr_fieldAddr rfl Try.underlying60 rfl rfl sz29_Desk (by decide) rfl) ?_
  refine VL.q (.inl rfl) rfl (by decide) (yq_load rfl fb29_Desk rfl (by first | exact Sees.root (by assumption) | exact Sees.own (by repeat (first | exact List.mem_cons_self | exact List.mem_append_left _ (by assumption) | apply List.mem_cons_of_mem | apply List.mem_append_right)) | exact Sees.root (hR _ (by omega)) | exact Sees.own (RowsIn.mem (by repeat (first | exact RowsIn.here | exact RowsIn.last | apply RowsIn.there | apply RowsIn.thereS)) _ (by omega)) | exact Sees.own (WRowsIn.mem (by repeat (first | exact WRowsIn.here | exact WRowsIn.last | apply WRowsIn.there | apply WRowsIn.thereS)) _ (by omega))) rfl) ?_
  refine VL.r (.inl rfl) rfl (by decide) (yr_len rfl Try.underlying29 rfl) ?_
  refine VL.r (.inl rfl) rfl (by decide) (yr_assign rfl rfl) ?_
  refine VL.nil ?_
  refine VE.then_wp ?_
  refine V.ret ?_
  refine ret1 rfl rfl (fun w1 hw => ?_)
  exact ⟨rfl, hw.below⟩

theorem c_coil {w : World} {a1 a2 a3 : Option Addr} {c1 c2 c3 : Nat} {xs ys zs : List Nat} {i j : Nat} (hz : Cl w a3 (fl zs)) (hn6 : xs.length ≤ 6) (hzl : zs.length = xs.length * xs.length) (hi : i < xs.length) (hj : j < xs.length) : Pure Try.prog 177 [.agg #[.slice a1 xs.length c1, .slice a2 ys.length c2, .slice a3 zs.length c3], .int .i64 (i : Int), .int .i64 (j : Int)] w (.float .f32 (coil zs xs.length i j)) := by
  refine Pure.enter Try.func177 rfl Try.ntmps177 (Nat.le_of_ble_eq_true rfl) ?_
  have hsq := sq_lt hi hj
  have hin : i * xs.length ≤ 36 := Nat.mul_le_mul (show i ≤ 6 by omega) hn6
  refine V.seq ?_
  refine V.region ?_
  refine VL.new1 (.inl rfl) rfl (by decide) (yn_box rfl rfl (.inr ⟨rfl, rfl⟩)) ?_
  intro b3
  refine VL.r (.inl rfl) rfl (by decide) (yr_assign (u := .float .f32 0) rfl rfl) ?_
  refine VL.nil ?_
  refine VE.then_wp ?_
  refine V.seq ?_
  refine V.draw [(0, 0), (1, 0), (2, 0), (3, 0), (4, 0), (5, 0), (6, 0), (7, 0), (8, 0), (9, 0), (10, 0)] mixed_Desk (by kernel_rfl) (by intro j o hj; simp at hj) ?_
  refine SW.r rfl (.inl rfl) rfl (by decide) (yr_fieldAddr rfl Try.underlying60 rfl rfl sz29_Desk (by decide) rfl) ?_
  refine SW.q rfl (.inl rfl) rfl (by decide) (yq_load rfl fb29_Desk rfl (by first | exact Sees.root (by assumption) | exact Sees.own (by repeat (first | exact List.mem_cons_self | exact List.mem_append_left _ (by assumption) | apply List.mem_cons_of_mem | apply List.mem_append_right)) | exact Sees.root (hR _ (by omega)) | exact Sees.own (RowsIn.mem (by repeat (first | exact RowsIn.here | exact RowsIn.last | apply RowsIn.there | apply RowsIn.thereS)) _ (by omega)) | exact Sees.own (WRowsIn.mem (by repeat (first | exact WRowsIn.here | exact WRowsIn.last | apply WRowsIn.there | apply WRowsIn.thereS)) _ (by omega))) rfl) ?_
  refine SW.r rfl (.inl rfl) rfl (by decide) (yr_move rfl rfl) ?_
  refine SW.q rfl (.inl rfl) rfl (by decide) (yq_loadS rfl Try.underlying60 sz60_Desk rfl (by first | exact Sees.root (by assumption) | exact Sees.own (by repeat (first | exact List.mem_cons_self | exact List.mem_append_left _ (by assumption) | apply List.mem_cons_of_mem | apply List.mem_append_right)) | exact Sees.root (hR _ (by omega)) | exact Sees.own (RowsIn.mem (by repeat (first | exact RowsIn.here | exact RowsIn.last | apply RowsIn.there | apply RowsIn.thereS)) _ (by omega)) | exact Sees.own (WRowsIn.mem (by repeat (first | exact WRowsIn.here | exact WRowsIn.last | apply WRowsIn.there | apply WRowsIn.thereS)) _ (by omega))) rfl rfl rfl) ?_
  refine SW.q rfl (.inl rfl) rfl (by decide) (yq_callf rfl known176_Desk (.cons rfl .nil) (fun w hw => c_size)) ?_
  refine SW.r rfl (.inl rfl) rfl (by decide) (yr_mulN i xs.length rfl rfl rfl (by omega) (by omega) (Nat.le_trans (mul_small (by omega) (by omega)) (by decide))) ?_
  refine SW.r rfl (.inl rfl) rfl (by decide) (yr_move rfl rfl) ?_
  refine SW.r rfl (.inl rfl) rfl (by decide) (yr_int rfl rfl rfl (.inl ⟨rfl, wrap_in (by omega)⟩)) ?_
  refine SW.q rfl (.inl rfl) rfl (by decide) (yq_idx (k := ((i * xs.length) + j)) rfl Try.underlying29 sz22_Desk rfl rfl (by first | exact Sees.root (by assumption) | exact Sees.own (by repeat (first | exact List.mem_cons_self | exact List.mem_append_left _ (by assumption) | apply List.mem_cons_of_mem | apply List.mem_append_right)) | exact Sees.root (hR _ (by omega)) | exact Sees.own (RowsIn.mem (by repeat (first | exact RowsIn.here | exact RowsIn.last | apply RowsIn.there | apply RowsIn.thereS)) _ (by omega)) | exact Sees.own (WRowsIn.mem (by repeat (first | exact WRowsIn.here | exact WRowsIn.last | apply WRowsIn.there | apply WRowsIn.thereS)) _ (by omega))) (by first | rfl | omega | (push_cast; rfl) | (push_cast; omega) | exact tmod_nat _ _) (by exact fl_length _) (by omega)) ?_
  refine SW.q rfl (.inl rfl) rfl (by decide) (yq_loadF rfl fb22_Desk rfl (by first | exact Sees.root (by assumption) | exact Sees.own (by repeat (first | exact List.mem_cons_self | exact List.mem_append_left _ (by assumption) | apply List.mem_cons_of_mem | apply List.mem_append_right)) | exact Sees.root (hR _ (by omega)) | exact Sees.own (RowsIn.mem (by repeat (first | exact RowsIn.here | exact RowsIn.last | apply RowsIn.there | apply RowsIn.thereS)) _ (by omega)) | exact Sees.own (WRowsIn.mem (by repeat (first | exact WRowsIn.here | exact WRowsIn.last | apply WRowsIn.there | apply WRowsIn.thereS)) _ (by omega))) (by omega)) ?_
  refine SW.r rfl (.inl rfl) rfl (by decide) (yr_assign rfl rfl) ?_
  refine SW.done ?_
  refine VE.then_wp ?_
  refine V.ret ?_
  refine ret1 rfl rfl (fun w1 hw => ?_)
  exact ⟨rfl, hw.below⟩

theorem c_implCirc {w : World} {a1 a2 a3 : Option Addr} {c1 c2 c3 : Nat} {xs ys zs : List Nat} (hx : Cl w a1 (fl xs)) (hy : Cl w a2 (fl ys)) (hz : Cl w a3 (fl zs)) (hcn : xs.length + ys.length + zs.length ≤ 1050000) : Pure Try.prog 114 [.agg #[.slice a1 xs.length c1, .slice a2 ys.length c2, .slice a3 zs.length c3]] w (.bool (circOk xs ys zs)) := by
  refine Pure.enter Try.func114 rfl Try.ntmps114 (Nat.le_of_ble_eq_true rfl) ?_
  refine V.seq ?_
  refine V.region ?_
  refine VL.new1 (.inl rfl) rfl (by decide) (yn_box rfl rfl (.inr ⟨rfl, rfl⟩)) ?_
  intro b1
  refine VL.r (.inl rfl) rfl (by decide) (yr_assign (u := .bool false) rfl rfl) ?_
  refine VL.nil ?_
  refine VE.then_wp ?_
  refine V.seq ?_
  refine V.region ?_
  refine VL.q (.inl rfl) rfl (by decide) (yq_loadS rfl Try.underlying60 sz60_Desk rfl (by first | exact Sees.root (by assumption) | exact Sees.own (by repeat (first | exact List.mem_cons_self | exact List.mem_append_left _ (by assumption) | apply List.mem_cons_of_mem | apply List.mem_append_right)) | exact Sees.root (hR _ (by omega)) | exact Sees.own (RowsIn.mem (by repeat (first | exact RowsIn.here | exact RowsIn.last | apply RowsIn.there | apply RowsIn.thereS)) _ (by omega)) | exact Sees.own (WRowsIn.mem (by repeat (first | exact WRowsIn.here | exact WRowsIn.last | apply WRowsIn.there | apply WRowsIn.thereS)) _ (by omega))) rfl rfl rfl) ?_
  refine VL.q (.inl rfl) rfl (by decide) (yq_callf rfl known176_Desk (.cons rfl .nil) (fun w hw => c_size)) ?_
  refine VL.r (.inl rfl) rfl (by decide) (yr_assign rfl rfl) ?_
  refine VL.nil ?_
  refine VE.then_wp ?_
  refine V.seq ?_
  refine V.seq ?_
  refine V.region ?_
  refine VL.r (.inl rfl) rfl (by decide) (yr_move rfl rfl) ?_
  refine VL.r (.inl rfl) rfl (by decide) (yr_icmp rfl (.inr (.inr (.inl rfl))) rfl rfl) ?_
  refine VL.r (.inl rfl) rfl (by decide) (yr_move rfl rfl) ?_
  refine VX.split 10 _ rfl (fun h1 => ?_) (fun h1 => ?_)
  · skip
    replace h1 := ic_lss h1
    refine VL.no rfl rfl rfl rfl rfl (by decide) ?_
    refine VL.no rfl rfl rfl rfl rfl (by decide) ?_
    refine VL.r (.inl rfl) rfl (by decide) (yr_pick_t (u := .bool true) rfl rfl rfl) ?_
    refine VL.r (.inl rfl) rfl (by decide) (yr_move rfl rfl) ?_
    refine VL.no rfl rfl rfl rfl rfl (by decide) ?_
    refine VL.no rfl rfl rfl rfl rfl (by decide) ?_
    refine VL.no rfl rfl rfl rfl rfl (by decide) ?_
    refine VL.no rfl rfl rfl rfl rfl (by decide) ?_
    refine VL.no rfl rfl rfl rfl rfl (by decide) ?_
    refine VL.r (.inl rfl) rfl (by decide) (yr_pick_t (u := .bool true) rfl rfl rfl) ?_
    refine VL.r (.inl rfl) rfl (by decide) (yr_move rfl rfl) ?_
    refine VL.no rfl rfl rfl rfl rfl (by decide) ?_
    refine VL.no rfl rfl rfl rfl rfl (by decide) ?_
    refine VL.no rfl rfl rfl rfl rfl (by decide) ?_
    refine VL.no rfl rfl rfl rfl rfl (by decide) ?_
    refine VL.no rfl rfl rfl rfl rfl (by decide) ?_
    refine VL.no rfl rfl rfl rfl rfl (by decide) ?_
    refine VL.no rfl rfl rfl rfl rfl (by decide) ?_
    refine VL.r (.inl rfl) rfl (by decide) (yr_pick_t (u := .bool true) rfl rfl rfl) ?_
    refine VL.r (.inl rfl) rfl (by decide) (yr_move rfl rfl) ?_
    refine VL.no rfl rfl rfl rfl rfl (by decide) ?_
    refine VL.no rfl rfl rfl rfl rfl (by decide) ?_
    refine VL.no rfl rfl rfl rfl rfl (by decide) ?_
    refine VL.no rfl rfl rfl rfl rfl (by decide) ?_
    refine VL.r (.inl rfl) rfl (by decide) (yr_pick_t (u := .bool true) rfl rfl rfl) ?_
    refine VL.r (.inl rfl) rfl (by decide) (yr_move rfl rfl) ?_
    refine VL.no rfl rfl rfl rfl rfl (by decide) ?_
    refine VL.no rfl rfl rfl rfl rfl (by decide) ?_
    refine VL.no rfl rfl rfl rfl rfl (by decide) ?_
    refine VL.no rfl rfl rfl rfl rfl (by decide) ?_
    refine VL.r (.inl rfl) rfl (by decide) (yr_pick_t (u := .bool true) rfl rfl rfl) ?_
    refine VL.r (.inl rfl) rfl (by decide) (yr_move rfl rfl) ?_
    refine VL.no rfl rfl rfl rfl rfl (by decide) ?_
    refine VL.no rfl rfl rfl rfl rfl (by decide) ?_
    refine VL.no rfl rfl rfl rfl rfl (by decide) ?_
    refine VL.no rfl rfl rfl rfl rfl (by decide) ?_
    refine VL.r (.inl rfl) rfl (by decide) (yr_pick_t (u := .bool true) rfl rfl rfl) ?_
    refine VL.nil ?_
    refine VE.then_wp ?_
    refine V.condT rfl ?_
    refine V.seq ?_
    refine V.region ?_
    refine VL.r (.inl rfl) rfl (by decide) (yr_assign (u := .bool false) rfl rfl) ?_
    refine VL.nil ?_
    refine VE.then_wp ?_
    refine V.ret ?_
    refine VE.then_ret ?_
    refine ret1 rfl rfl (fun w1 hw => ?_)
    first
      | (obtain rfl : i = xs.length := by omega
         exact ⟨congrArg Value.bool (circ_yes ⟨⟨by omega, by omega, by omega, by omega⟩, (by assumption), (by assumption), (by assumption), hI⟩), hw.below⟩)
      | (refine ⟨congrArg Value.bool (circ_no fun hc => ?_), hw.below⟩
         obtain ⟨⟨v1, v2, v3, v4⟩, v5, v6, v7, v8⟩ := hc
         first
           | omega
           | (have h9 := (v8 i (by omega)).1; simp_all; done)
           | (have h9 := (v8 i (by omega)).2 j (by omega); simp_all; done)
           | (simp_all; done))
  · skip
    replace h1 := ic_lss' h1
    refine VL.r (.inr ⟨_, _, _, rfl, rfl, rfl⟩) rfl (by decide) (yr_move rfl rfl) ?_
    refine VL.r (.inr ⟨_, _, _, rfl, rfl, rfl⟩) rfl (by decide) (yr_icmp rfl (.inr (.inr (.inr (.inr (.inl rfl))))) rfl rfl) ?_
    refine VL.r (.inl rfl) rfl (by decide) (yr_pick_f rfl rfl rfl) ?_
    refine VL.r (.inl rfl) rfl (by decide) (yr_move rfl rfl) ?_
    refine VX.split 14 _ rfl (fun h3 => ?_) (fun h3 => ?_)
    · skip
      replace h3 := ic_gtr h3
      refine VL.no rfl rfl rfl rfl rfl (by decide) ?_
      refine VL.no rfl rfl rfl rfl rfl (by decide) ?_
      refine VL.no rfl rfl rfl rfl rfl (by decide) ?_
      refine VL.no rfl rfl rfl rfl rfl (by decide) ?_
      refine VL.no rfl rfl rfl rfl rfl (by decide) ?_
      refine VL.r (.inl rfl) rfl (by decide) (yr_pick_t (u := .bool true) rfl rfl rfl) ?_
      refine VL.r (.inl rfl) rfl (by decide) (yr_move rfl rfl) ?_
      refine VL.no rfl rfl rfl rfl rfl (by decide) ?_
      refine VL.no rfl rfl rfl rfl rfl (by decide) ?_
      refine VL.no rfl rfl rfl rfl rfl (by decide) ?_
      refine VL.no rfl rfl rfl rfl rfl (by decide) ?_
      refine VL.no rfl rfl rfl rfl rfl (by decide) ?_
      refine VL.no rfl rfl rfl rfl rfl (by decide) ?_
      refine VL.no rfl rfl rfl rfl rfl (by decide) ?_
      refine VL.r (.inl rfl) rfl (by decide) (yr_pick_t (u := .bool true) rfl rfl rfl) ?_
      refine VL.r (.inl rfl) rfl (by decide) (yr_move rfl rfl) ?_
      refine VL.no rfl rfl rfl rfl rfl (by decide) ?_
      refine VL.no rfl rfl rfl rfl rfl (by decide) ?_
      refine VL.no rfl rfl rfl rfl rfl (by decide) ?_
      refine VL.no rfl rfl rfl rfl rfl (by decide) ?_
      refine VL.r (.inl rfl) rfl (by decide) (yr_pick_t (u := .bool true) rfl rfl rfl) ?_
      refine VL.r (.inl rfl) rfl (by decide) (yr_move rfl rfl) ?_
      refine VL.no rfl rfl rfl rfl rfl (by decide) ?_
      refine VL.no rfl rfl rfl rfl rfl (by decide) ?_
      refine VL.no rfl rfl rfl rfl rfl (by decide) ?_
      refine VL.no rfl rfl rfl rfl rfl (by decide) ?_
      refine VL.r (.inl rfl) rfl (by decide) (yr_pick_t (u := .bool true) rfl rfl rfl) ?_
      refine VL.r (.inl rfl) rfl (by decide) (yr_move rfl rfl) ?_
      refine VL.no rfl rfl rfl rfl rfl (by decide) ?_
      refine VL.no rfl rfl rfl rfl rfl (by decide) ?_
      refine VL.no rfl rfl rfl rfl rfl (by decide) ?_
      refine VL.no rfl rfl rfl rfl rfl (by decide) ?_
      refine VL.r (.inl rfl) rfl (by decide) (yr_pick_t (u := .bool true) rfl rfl rfl) ?_
      refine VL.nil ?_
      refine VE.then_wp ?_
      refine V.condT rfl ?_
      refine V.seq ?_
      refine V.region ?_
      refine VL.r (.inl rfl) rfl (by decide) (yr_assign (u := .bool false) rfl rfl) ?_
      refine VL.nil ?_
      refine VE.then_wp ?_
      refine V.ret ?_
      refine VE.then_ret ?_
      refine ret1 rfl rfl (fun w1 hw => ?_)
      first
        | (obtain rfl : i = xs.length := by omega
           exact ⟨congrArg Value.bool (circ_yes ⟨⟨by omega, by omega, by omega, by omega⟩, (by assumption), (by assumption), (by assumption), hI⟩), hw.below⟩)
        | (refine ⟨congrArg Value.bool (circ_no fun hc => ?_), hw.below⟩
           obtain ⟨⟨v1, v2, v3, v4⟩, v5, v6, v7, v8⟩ := hc
           first
             | omega
             | (have h9 := (v8 i (by omega)).1; simp_all; done)
             | (have h9 := (v8 i (by omega)).2 j (by omega); simp_all; done)
             | (simp_all; done))
    · skip
      replace h3 := ic_gtr' h3
      refine VL.r (.inr ⟨_, _, _, rfl, rfl, rfl⟩) rfl (by decide) (yr_fieldAddr rfl Try.underlying60 rfl rfl sz29_Desk (by decide) rfl) ?_
      refine VL.q (.inr ⟨_, _, _, rfl, rfl, rfl⟩) rfl (by decide) (yq_load rfl fb29_Desk rfl (by first | exact Sees.root (by assumption) | exact Sees.own (by repeat (first | exact List.mem_cons_self | exact List.mem_append_left _ (by assumption) | apply List.mem_cons_of_mem | apply List.mem_append_right)) | exact Sees.root (hR _ (by omega)) | exact Sees.own (RowsIn.mem (by repeat (first | exact RowsIn.here | exact RowsIn.last | apply RowsIn.there | apply RowsIn.thereS)) _ (by omega)) | exact Sees.own (WRowsIn.mem (by repeat (first | exact WRowsIn.here | exact WRowsIn.last | apply WRowsIn.there | apply WRowsIn.thereS)) _ (by omega))) rfl) ?_
      refine VL.r (.inr ⟨_, _, _, rfl, rfl, rfl⟩) rfl (by decide) (yr_len rfl Try.underlying29 rfl) ?_
      refine VL.r (.inr ⟨_, _, _, rfl, rfl, rfl⟩) rfl (by decide) (yr_move rfl rfl) ?_
      refine VL.r (.inr ⟨_, _, _, rfl, rfl, rfl⟩) rfl (by decide) (yr_icmp rfl (.inr (.inl rfl)) rfl rfl) ?_
      refine VL.r (.inl rfl) rfl (by decide) (yr_pick_f rfl rfl rfl) ?_
      refine VL.r (.inl rfl) rfl (by decide) (yr_move rfl rfl) ?_
      refine VX.split 21 _ rfl (fun h5 => ?_) (fun h5 => ?_)
      · skip
        replace h5 := ic_neq h5
        refine VL.no rfl rfl rfl rfl rfl (by decide) ?_
        refine VL.no rfl rfl rfl rfl rfl (by decide) ?_
        refine VL.no rfl rfl rfl rfl rfl (by decide) ?_
        refine VL.no rfl rfl rfl rfl rfl (by decide) ?_
        refine VL.no rfl rfl rfl rfl rfl (by decide) ?_
        refine VL.no rfl rfl rfl rfl rfl (by decide) ?_
        refine VL.no rfl rfl rfl rfl rfl (by decide) ?_
        refine VL.r (.inl rfl) rfl (by decide) (yr_pick_t (u := .bool true) rfl rfl rfl) ?_
        refine VL.r (.inl rfl) rfl (by decide) (yr_move rfl rfl) ?_
        refine VL.no rfl rfl rfl rfl rfl (by decide) ?_
        refine VL.no rfl rfl rfl rfl rfl (by decide) ?_
        refine VL.no rfl rfl rfl rfl rfl (by decide) ?_
        refine VL.no rfl rfl rfl rfl rfl (by decide) ?_
        refine VL.r (.inl rfl) rfl (by decide) (yr_pick_t (u := .bool true) rfl rfl rfl) ?_
        refine VL.r (.inl rfl) rfl (by decide) (yr_move rfl rfl) ?_
        refine VL.no rfl rfl rfl rfl rfl (by decide) ?_
        refine VL.no rfl rfl rfl rfl rfl (by decide) ?_
        refine VL.no rfl rfl rfl rfl rfl (by decide) ?_
        refine VL.no rfl rfl rfl rfl rfl (by decide) ?_
        refine VL.r (.inl rfl) rfl (by decide) (yr_pick_t (u := .bool true) rfl rfl rfl) ?_
        refine VL.r (.inl rfl) rfl (by decide) (yr_move rfl rfl) ?_
        refine VL.no rfl rfl rfl rfl rfl (by decide) ?_
        refine VL.no rfl rfl rfl rfl rfl (by decide) ?_
        refine VL.no rfl rfl rfl rfl rfl (by decide) ?_
        refine VL.no rfl rfl rfl rfl rfl (by decide) ?_
        refine VL.r (.inl rfl) rfl (by decide) (yr_pick_t (u := .bool true) rfl rfl rfl) ?_
        refine VL.nil ?_
        refine VE.then_wp ?_
        refine V.condT rfl ?_
        refine V.seq ?_
        refine V.region ?_
        refine VL.r (.inl rfl) rfl (by decide) (yr_assign (u := .bool false) rfl rfl) ?_
        refine VL.nil ?_
        refine VE.then_wp ?_
        refine V.ret ?_
        refine VE.then_ret ?_
        refine ret1 rfl rfl (fun w1 hw => ?_)
        first
          | (obtain rfl : i = xs.length := by omega
             exact ⟨congrArg Value.bool (circ_yes ⟨⟨by omega, by omega, by omega, by omega⟩, (by assumption), (by assumption), (by assumption), hI⟩), hw.below⟩)
          | (refine ⟨congrArg Value.bool (circ_no fun hc => ?_), hw.below⟩
             obtain ⟨⟨v1, v2, v3, v4⟩, v5, v6, v7, v8⟩ := hc
             first
               | omega
               | (have h9 := (v8 i (by omega)).1; simp_all; done)
               | (have h9 := (v8 i (by omega)).2 j (by omega); simp_all; done)
               | (simp_all; done))
      · skip
        replace h5 := ic_neq' h5
        refine VL.r (.inr ⟨_, _, _, rfl, rfl, rfl⟩) rfl (by decide) (yr_fieldAddr rfl Try.underlying60 rfl rfl sz29_Desk (by decide) rfl) ?_
        refine VL.q (.inr ⟨_, _, _, rfl, rfl, rfl⟩) rfl (by decide) (yq_load rfl fb29_Desk rfl (by first | exact Sees.root (by assumption) | exact Sees.own (by repeat (first | exact List.mem_cons_self | exact List.mem_append_left _ (by assumption) | apply List.mem_cons_of_mem | apply List.mem_append_right)) | exact Sees.root (hR _ (by omega)) | exact Sees.own (RowsIn.mem (by repeat (first | exact RowsIn.here | exact RowsIn.last | apply RowsIn.there | apply RowsIn.thereS)) _ (by omega)) | exact Sees.own (WRowsIn.mem (by repeat (first | exact WRowsIn.here | exact WRowsIn.last | apply WRowsIn.there | apply WRowsIn.thereS)) _ (by omega))) rfl) ?_
        refine VL.r (.inr ⟨_, _, _, rfl, rfl, rfl⟩) rfl (by decide) (yr_len rfl Try.underlying29 rfl) ?_
        refine VL.r (.inr ⟨_, _, _, rfl, rfl, rfl⟩) rfl (by decide) (yr_move rfl rfl) ?_
        refine VL.r (.inr ⟨_, _, _, rfl, rfl, rfl⟩) rfl (by decide) (yr_move rfl rfl) ?_
        refine VL.r (.inr ⟨_, _, _, rfl, rfl, rfl⟩) rfl (by decide) (yr_mulN xs.length xs.length rfl rfl rfl (by omega) (by omega) (Nat.le_trans (Nat.mul_le_mul (show xs.length ≤ 6 by omega) (show xs.length ≤ 6 by omega)) (by decide))) ?_
        refine VL.r (.inr ⟨_, _, _, rfl, rfl, rfl⟩) rfl (by decide) (yr_icmp rfl (.inr (.inl rfl)) rfl rfl) ?_
        refine VL.r (.inl rfl) rfl (by decide) (yr_pick_f rfl rfl rfl) ?_
        refine VL.r (.inl rfl) rfl (by decide) (yr_move rfl rfl) ?_
        refine VX.split 30 _ rfl (fun h7 => ?_) (fun h7 => ?_)
        · skip
          replace h7 := ic_neq h7
          refine VL.no rfl rfl rfl rfl rfl (by decide) ?_
          refine VL.no rfl rfl rfl rfl rfl (by decide) ?_
          refine VL.no rfl rfl rfl rfl rfl (by decide) ?_
          refine VL.no rfl rfl rfl rfl rfl (by decide) ?_
          refine VL.r (.inl rfl) rfl (by decide) (yr_pick_t (u := .bool true) rfl rfl rfl) ?_
          refine VL.r (.inl rfl) rfl (by decide) (yr_move rfl rfl) ?_
          refine VL.no rfl rfl rfl rfl rfl (by decide) ?_
          refine VL.no rfl rfl rfl rfl rfl (by decide) ?_
          refine VL.no rfl rfl rfl rfl rfl (by decide) ?_
          refine VL.no rfl rfl rfl rfl rfl (by decide) ?_
          refine VL.r (.inl rfl) rfl (by decide) (yr_pick_t (u := .bool true) rfl rfl rfl) ?_
          refine VL.r (.inl rfl) rfl (by decide) (yr_move rfl rfl) ?_
          refine VL.no rfl rfl rfl rfl rfl (by decide) ?_
          refine VL.no rfl rfl rfl rfl rfl (by decide) ?_
          refine VL.no rfl rfl rfl rfl rfl (by decide) ?_
          refine VL.no rfl rfl rfl rfl rfl (by decide) ?_
          refine VL.r (.inl rfl) rfl (by decide) (yr_pick_t (u := .bool true) rfl rfl rfl) ?_
          refine VL.nil ?_
          refine VE.then_wp ?_
          refine V.condT rfl ?_
          refine V.seq ?_
          refine V.region ?_
          refine VL.r (.inl rfl) rfl (by decide) (yr_assign (u := .bool false) rfl rfl) ?_
          refine VL.nil ?_
          refine VE.then_wp ?_
          refine V.ret ?_
          refine VE.then_ret ?_
          refine ret1 rfl rfl (fun w1 hw => ?_)
          first
            | (obtain rfl : i = xs.length := by omega
               exact ⟨congrArg Value.bool (circ_yes ⟨⟨by omega, by omega, by omega, by omega⟩, (by assumption), (by assumption), (by assumption), hI⟩), hw.below⟩)
            | (refine ⟨congrArg Value.bool (circ_no fun hc => ?_), hw.below⟩
               obtain ⟨⟨v1, v2, v3, v4⟩, v5, v6, v7, v8⟩ := hc
               first
                 | omega
                 | (have h9 := (v8 i (by omega)).1; simp_all; done)
                 | (have h9 := (v8 i (by omega)).2 j (by omega); simp_all; done)
                 | (simp_all; done))
        · skip
          replace h7 := ic_neq' h7
          refine VL.r (.inr ⟨_, _, _, rfl, rfl, rfl⟩) rfl (by decide) (yr_fieldAddr rfl Try.underlying60 rfl rfl sz29_Desk (by decide) rfl) ?_
          refine VL.q (.inr ⟨_, _, _, rfl, rfl, rfl⟩) rfl (by decide) (yq_load rfl fb29_Desk rfl (by first | exact Sees.root (by assumption) | exact Sees.own (by repeat (first | exact List.mem_cons_self | exact List.mem_append_left _ (by assumption) | apply List.mem_cons_of_mem | apply List.mem_append_right)) | exact Sees.root (hR _ (by omega)) | exact Sees.own (RowsIn.mem (by repeat (first | exact RowsIn.here | exact RowsIn.last | apply RowsIn.there | apply RowsIn.thereS)) _ (by omega)) | exact Sees.own (WRowsIn.mem (by repeat (first | exact WRowsIn.here | exact WRowsIn.last | apply WRowsIn.there | apply WRowsIn.thereS)) _ (by omega))) rfl) ?_
          refine VL.q (.inr ⟨_, _, _, rfl, rfl, rfl⟩) rfl (by decide) (yq_callf rfl known164_Desk (.cons rfl .nil) (fun w hw => (c_areNotNeg (by first | exact Sees.root (by assumption) w hw | exact Sees.own (by repeat (first | exact List.mem_cons_self | exact List.mem_append_left _ (by assumption) | apply List.mem_cons_of_mem | apply List.mem_append_right)) w hw) (by omega)))) ?_
          refine VL.r (.inr ⟨_, _, _, rfl, rfl, rfl⟩) rfl (by decide) (yr_not rfl rfl) ?_
          refine VL.r (.inl rfl) rfl (by decide) (yr_pick_f rfl rfl rfl) ?_
          refine VL.r (.inl rfl) rfl (by decide) (yr_move rfl rfl) ?_
          refine VX.split 36 _ rfl (fun h9 => ?_) (fun h9 => ?_)
          · skip
            replace h9 := bnot_t h9
            refine VL.no rfl rfl rfl rfl rfl (by decide) ?_
            refine VL.no rfl rfl rfl rfl rfl (by decide) ?_
            refine VL.no rfl rfl rfl rfl rfl (by decide) ?_
            refine VL.no rfl rfl rfl rfl rfl (by decide) ?_
            refine VL.r (.inl rfl) rfl (by decide) (yr_pick_t (u := .bool true) rfl rfl rfl) ?_
            refine VL.r (.inl rfl) rfl (by decide) (yr_move rfl rfl) ?_
            refine VL.no rfl rfl rfl rfl rfl (by decide) ?_
            refine VL.no rfl rfl rfl rfl rfl (by decide) ?_
            refine VL.no rfl rfl rfl rfl rfl (by decide) ?_
            refine VL.no rfl rfl rfl rfl rfl (by decide) ?_
            refine VL.r (.inl rfl) rfl (by decide) (yr_pick_t (u := .bool true) rfl rfl rfl) ?_
            refine VL.nil ?_
            refine VE.then_wp ?_
            refine V.condT rfl ?_
            refine V.seq ?_
            refine V.region ?_
            refine VL.r (.inl rfl) rfl (by decide) (yr_assign (u := .bool false) rfl rfl) ?_
            refine VL.nil ?_
            refine VE.then_wp ?_
            refine V.ret ?_
            refine VE.then_ret ?_
            refine ret1 rfl rfl (fun w1 hw => ?_)
            first
              | (obtain rfl : i = xs.length := by omega
                 exact ⟨congrArg Value.bool (circ_yes ⟨⟨by omega, by omega, by omega, by omega⟩, (by assumption), (by assumption), (by assumption), hI⟩), hw.below⟩)
              | (refine ⟨congrArg Value.bool (circ_no fun hc => ?_), hw.below⟩
                 obtain ⟨⟨v1, v2, v3, v4⟩, v5, v6, v7, v8⟩ := hc
                 first
                   | omega
                   | (have h9 := (v8 i (by omega)).1; simp_all; done)
                   | (have h9 := (v8 i (by omega)).2 j (by omega); simp_all; done)
                   | (simp_all; done))
          · skip
            replace h9 := bnot_f h9
            refine VL.r (.inr ⟨_, _, _, rfl, rfl, rfl⟩) rfl (by decide) (yr_fieldAddr rfl Try.underlying60 rfl rfl sz29_Desk (by decide) rfl) ?_
            refine VL.q (.inr ⟨_, _, _, rfl, rfl, rfl⟩) rfl (by decide) (yq_load rfl fb29_Desk rfl (by first | exact Sees.root (by assumption) | exact Sees.own (by repeat (first | exact List.mem_cons_self | exact List.mem_append_left _ (by assumption) | apply List.mem_cons_of_mem | apply List.mem_append_right)) | exact Sees.root (hR _ (by omega)) | exact Sees.own (RowsIn.mem (by repeat (first | exact RowsIn.here | exact RowsIn.last | apply RowsIn.there | apply RowsIn.thereS)) _ (by omega)) | exact Sees.own (WRowsIn.mem (by repeat (first | exact WRowsIn.here | exact WRowsIn.last | apply WRowsIn.there | apply WRowsIn.thereS)) _ (by omega))) rfl) ?_
            refine VL.q (.inr ⟨_, _, _, rfl, rfl, rfl⟩) rfl (by decide) (yq_callf rfl known164_Desk (.cons rfl .nil) (fun w hw => (c_areNotNeg (by first | exact Sees.root (by assumption) w hw | exact Sees.own (by repeat (first | exact List.mem_cons_self | exact List.mem_append_left _ (by assumption) | apply List.mem_cons_of_mem | apply List.mem_append_right)) w hw) (by omega)))) ?_
            refine VL.r (.inr ⟨_, _, _, rfl, rfl, rfl⟩) rfl (by decide) (yr_not rfl rfl) ?_
            refine VL.r (.inl rfl) rfl (by decide) (yr_pick_f rfl rfl rfl) ?_
            refine VL.r (.inl rfl) rfl (by decide) (yr_move rfl rfl) ?_
            refine VX.split 42 _ rfl (fun h11 => ?_) (fun h11 => ?_)
            · skip
              replace h11 := bnot_t h11
              refine VL.no rfl rfl rfl rfl rfl (by decide) ?_
              refine VL.no rfl rfl rfl rfl rfl (by decide) ?_
              refine VL.no rfl rfl rfl rfl rfl (by decide) ?_
              refine VL.no rfl rfl rfl rfl rfl (by decide) ?_
              refine VL.r (.inl rfl) rfl (by decide) (yr_pick_t (u := .bool true) rfl rfl rfl) ?_
              refine VL.nil ?_
              refine VE.then_wp ?_
              refine V.condT rfl ?_
              refine V.seq ?_
              refine V.region ?_
              refine VL.r (.inl rfl) rfl (by decide) (yr_assign (u := .bool false) rfl rfl) ?_
              refine VL.nil ?_
              refine VE.then_wp ?_
              refine V.ret ?_
              refine VE.then_ret ?_
              refine ret1 rfl rfl (fun w1 hw => ?_)
              first
                | (obtain rfl : i = xs.length := by omega
                   exact ⟨congrArg Value.bool (circ_yes ⟨⟨by omega, by omega, by omega, by omega⟩, (by assumption), (by assumption), (by assumption), hI⟩), hw.below⟩)
                | (refine ⟨congrArg Value.bool (circ_no fun hc => ?_), hw.below⟩
                   obtain ⟨⟨v1, v2, v3, v4⟩, v5, v6, v7, v8⟩ := hc
                   first
                     | omega
                     | (have h9 := (v8 i (by omega)).1; simp_all; done)
                     | (have h9 := (v8 i (by omega)).2 j (by omega); simp_all; done)
                     | (simp_all; done))
            · skip
              replace h11 := bnot_f h11
              refine VL.r (.inr ⟨_, _, _, rfl, rfl, rfl⟩) rfl (by decide) (yr_fieldAddr rfl Try.underlying60 rfl rfl sz29_Desk (by decide) rfl) ?_
              refine VL.q (.inr ⟨_, _, _, rfl, rfl, rfl⟩) rfl (by decide) (yq_load rfl fb29_Desk rfl (by first | exact Sees.root (by assumption) | exact Sees.own (by repeat (first | exact List.mem_cons_self | exact List.mem_append_left _ (by assumption) | apply List.mem_cons_of_mem | apply List.mem_append_right)) | exact Sees.root (hR _ (by omega)) | exact Sees.own (RowsIn.mem (by repeat (first | exact RowsIn.here | exact RowsIn.last | apply RowsIn.there | apply RowsIn.thereS)) _ (by omega)) | exact Sees.own (WRowsIn.mem (by repeat (first | exact WRowsIn.here | exact WRowsIn.last | apply WRowsIn.there | apply WRowsIn.thereS)) _ (by omega))) rfl) ?_
              refine VL.q (.inr ⟨_, _, _, rfl, rfl, rfl⟩) rfl (by decide) (yq_callf rfl known71_Desk (.cons rfl .nil) (fun w hw => (c_areFinite (by first | exact Sees.root (by assumption) w hw | exact Sees.own (by repeat (first | exact List.mem_cons_self | exact List.mem_append_left _ (by assumption) | apply List.mem_cons_of_mem | apply List.mem_append_right)) w hw) (by omega)))) ?_
              refine VL.r (.inr ⟨_, _, _, rfl, rfl, rfl⟩) rfl (by decide) (yr_not rfl rfl) ?_
              refine VL.r (.inl rfl) rfl (by decide) (yr_pick_f rfl rfl rfl) ?_
              refine VL.nil ?_
              refine VE.then_wp ?_
              refine V.cond rfl (fun h13 => ?_) (fun h13 => ?_)
              · skip
                replace h13 := bnot_t h13
                refine V.seq ?_
                refine V.region ?_
                refine VL.r (.inl rfl) rfl (by decide) (yr_assign (u := .bool false) rfl rfl) ?_
                refine VL.nil ?_
                refine VE.then_wp ?_
                refine V.ret ?_
                refine VE.then_ret ?_
                refine ret1 rfl rfl (fun w1 hw => ?_)
                first
                  | (obtain rfl : i = xs.length := by omega
                     exact ⟨congrArg Value.bool (circ_yes ⟨⟨by omega, by omega, by omega, by omega⟩, (by assumption), (by assumption), (by assumption), hI⟩), hw.below⟩)
                  | (refine ⟨congrArg Value.bool (circ_no fun hc => ?_), hw.below⟩
                     obtain ⟨⟨v1, v2, v3, v4⟩, v5, v6, v7, v8⟩ := hc
                     first
                       | omega
                       | (have h9 := (v8 i (by omega)).1; simp_all; done)
                       | (have h9 := (v8 i (by omega)).2 j (by omega); simp_all; done)
                       | (simp_all; done))
              · skip
                replace h13 := bnot_f h13
                refine V.skip ?_
                refine VE.then_wp ?_
                refine V.seq ?_
                refine V.seq ?_
                refine V.region ?_
                refine VL.r (.inl rfl) rfl (by decide) (yr_move rfl rfl) ?_
                refine VL.r (.inl rfl) rfl (by decide) (yr_move (u := .int .i64 0) rfl rfl) ?_
                refine VL.nil ?_
                refine VE.then_wp ?_
                refine V.block ?_
                refine V.loops (G := Nat) [(1, _), (48, _)] (fun (i : Nat) => i ≤ xs.length ∧ ∀ k, k < i → fcmp .gtr .f32 (coil zs xs.length k k) 0 = true ∧ ∀ j, j < k → fcmp .neq .f32 (coil zs xs.length k j) (coil zs xs.length j k) = false) (fun (i : Nat) => [(49, .int .i64 (i : Int))]) (fun (i : Nat) => xs.length - i) 0 (.cons rfl (.cons rfl .nil)) (.cons rfl .nil) ?_ ?_
                · exact (by exact ⟨by omega, fun j h => by omega⟩)
                rintro i ⟨hi, hI⟩
                show V _ _ _ _ ([(49, .int .i64 (i : Int))] ++ [(1, _), (48, _)]) _ _
                refine V.seq ?_
                refine V.region ?_
                refine VL.r (.inl rfl) rfl (by decide) (yr_icmp rfl (.inr (.inr (.inl rfl))) rfl rfl) ?_
                refine VL.nil ?_
                refine VE.then_wp ?_
                refine V.seq ?_
                refine V.cond rfl (fun h14 => ?_) (fun h14 => ?_)
                · skip
                  replace h14 := ic_lss h14
                  refine V.skip ?_
                  refine VE.then_wp ?_
                  refine V.seq ?_
                  refine V.block ?_
                  refine V.seq ?_
                  refine V.region ?_
                  refine VL.r (.inl rfl) rfl (by decide) (yr_move rfl rfl) ?_
                  refine VL.r (.inl rfl) rfl (by decide) (yr_assign rfl rfl) ?_
                  refine VL.nil ?_
                  refine VE.then_wp ?_
                  refine V.seq ?_
                  refine V.seq ?_
                  refine V.region ?_
                  refine VL.q (.inl rfl) rfl (by decide) (yq_loadS rfl Try.underlying60 sz60_Desk rfl (by first | exact Sees.root (by assumption) | exact Sees.own (by repeat (first | exact List.mem_cons_self | exact List.mem_append_left _ (by assumption) | apply List.mem_cons_of_mem | apply List.mem_append_right)) | exact Sees.root (hR _ (by omega)) | exact Sees.own (RowsIn.mem (by repeat (first | exact RowsIn.here | exact RowsIn.last | apply RowsIn.there | apply RowsIn.thereS)) _ (by omega)) | exact Sees.own (WRowsIn.mem (by repeat (first | exact WRowsIn.here | exact WRowsIn.last | apply WRowsIn.there | apply WRowsIn.thereS)) _ (by omega))) rfl rfl rfl) ?_
                  refine VL.r (.inl rfl) rfl (by decide) (yr_move rfl rfl) ?_
                  refine VL.r (.inl rfl) rfl (by decide) (yr_move rfl rfl) ?_
                  refine VL.q (.inl rfl) rfl (by decide) (yq_callf rfl known177_Desk (.cons rfl (.cons rfl (.cons rfl .nil))) (fun w hw => (c_coil (i := i) (j := i) (by first | exact Sees.root (by assumption) w hw | exact Sees.own (by repeat (first | exact List.mem_cons_self | exact List.mem_append_left _ (by assumption) | apply List.mem_cons_of_mem | apply List.mem_append_right)) w hw) (by omega) (by omega) (by omega) (by omega)))) ?_
                  refine VL.r (.inl rfl) rfl (by decide) (yr_fcmp (b := 0) rfl (.inr (.inr (.inr (.inr (.inl rfl))))) rfl rfl) ?_
                  refine VL.r (.inl rfl) rfl (by decide) (yr_not rfl rfl) ?_
                  refine VL.nil ?_
                  refine VE.then_wp ?_
                  refine V.cond rfl (fun h15 => ?_) (fun h15 => ?_)
                  · skip
                    replace h15 := bnot_t h15
                    refine V.seq ?_
                    refine V.region ?_
                    refine VL.r (.inl rfl) rfl (by decide) (yr_assign (u := .bool false) rfl rfl) ?_
                    refine VL.nil ?_
                    refine VE.then_wp ?_
                    refine V.ret ?_
                    refine VE.then_ret ?_
                    refine VE.block_ret ?_
                    refine VE.then_ret ?_
                    refine VE.then_ret ?_
                    refine VE.block_ret ?_
                    refine VE.then_ret ?_
                    refine ret1 rfl rfl (fun w1 hw => ?_)
                    first
                      | (obtain rfl : i = xs.length := by omega
                         exact ⟨congrArg Value.bool (circ_yes ⟨⟨by omega, by omega, by omega, by omega⟩, (by assumption), (by assumption), (by assumption), hI⟩), hw.below⟩)
                      | (refine ⟨congrArg Value.bool (circ_no fun hc => ?_), hw.below⟩
                         obtain ⟨⟨v1, v2, v3, v4⟩, v5, v6, v7, v8⟩ := hc
                         first
                           | omega
                           | (have h9 := (v8 i (by omega)).1; simp_all; done)
                           | (have h9 := (v8 i (by omega)).2 j (by omega); simp_all; done)
                           | (simp_all; done))
                  · skip
                    replace h15 := bnot_f h15
                    refine V.skip ?_
                    refine VE.then_wp ?_
                    refine V.seq ?_
                    refine V.region ?_
                    refine VL.r (.inl rfl) rfl (by decide) (yr_move rfl rfl) ?_
                    refine VL.r (.inl rfl) rfl (by decide) (yr_move (u := .int .i64 0) rfl rfl) ?_
                    refine VL.nil ?_
                    refine VE.then_wp ?_
                    refine V.block ?_
                    refine V.loops (G := Nat) [(1, _), (4, _), (48, _), (49, _), (58, _)] (fun (j : Nat) => j ≤ i ∧ ∀ k, k < j → fcmp .neq .f32 (coil zs xs.length i k) (coil zs xs.length k i) = false) (fun (j : Nat) => [(59, .int .i64 (j : Int))]) (fun (j : Nat) => i - j) 0 (.cons rfl (.cons rfl (.cons rfl (.cons rfl (.cons rfl .nil))))) (.cons rfl .nil) ?_ ?_
                    · exact (by exact ⟨by omega, fun j h => by omega⟩)
                    rintro j ⟨hj, hJ⟩
                    show V _ _ _ _ ([(59, .int .i64 (j : Int))] ++ [(1, _), (4, _), (48, _), (49, _), (58, _)]) _ _
                    refine V.seq ?_
                    refine V.region ?_
                    refine VL.r (.inl rfl) rfl (by decide) (yr_icmp rfl (.inr (.inr (.inl rfl))) rfl rfl) ?_
                    refine VL.nil ?_
                    refine VE.then_wp ?_
                    refine V.seq ?_
                    refine V.cond rfl (fun h16 => ?_) (fun h16 => ?_)
                    · skip
                      replace h16 := ic_lss h16
                      refine V.skip ?_
                      refine VE.then_wp ?_
                      refine V.seq ?_
                      refine V.block ?_
                      refine V.seq ?_
                      refine V.region ?_
                      refine VL.r (.inl rfl) rfl (by decide) (yr_move rfl rfl) ?_
                      refine VL.r (.inl rfl) rfl (by decide) (yr_assign rfl rfl) ?_
                      refine VL.nil ?_
                      refine VE.then_wp ?_
                      refine V.seq ?_
                      refine V.draw [(0, 0), (1, 0), (2, 0), (3, 0), (4, 0), (5, 0), (6, 0), (7, 0), (8, 0)] mixed_Desk (by kernel_rfl) (by intro j o hj; simp at hj) ?_
                      refine SW.q rfl (.inl rfl) rfl (by decide) (yq_loadS rfl Try.underlying60 sz60_Desk rfl (by first | exact Sees.root (by assumption) | exact Sees.own (by repeat (first | exact List.mem_cons_self | exact List.mem_append_left _ (by assumption) | apply List.mem_cons_of_mem | apply List.mem_append_right)) | exact Sees.root (hR _ (by omega)) | exact Sees.own (RowsIn.mem (by repeat (first | exact RowsIn.here | exact RowsIn.last | apply RowsIn.there | apply RowsIn.thereS)) _ (by omega)) | exact Sees.own (WRowsIn.mem (by repeat (first | exact WRowsIn.here | exact WRowsIn.last | apply WRowsIn.there | apply WRowsIn.thereS)) _ (by omega))) rfl rfl rfl) ?_
                      refine SW.r rfl (.inl rfl) rfl (by decide) (yr_move rfl rfl) ?_
                      refine SW.r rfl (.inl rfl) rfl (by decide) (yr_move rfl rfl) ?_
                      refine SW.q rfl (.inl rfl) rfl (by decide) (yq_callf rfl known177_Desk (.cons rfl (.cons rfl (.cons rfl .nil))) (fun w hw => (c_coil (i := i) (j := j) (by first | exact Sees.root (by assumption) w hw | exact Sees.own (by repeat (first | exact List.mem_cons_self | exact List.mem_append_left _ (by assumption) | apply List.mem_cons_of_mem | apply List.mem_append_right)) w hw) (by omega) (by omega) (by omega) (by omega)))) ?_
                      refine SW.q rfl (.inl rfl) rfl (by decide) (yq_loadS rfl Try.underlying60 sz60_Desk rfl (by first | exact Sees.root (by assumption) | exact Sees.own (by repeat (first | exact List.mem_cons_self | exact List.mem_append_left _ (by assumption) | apply List.mem_cons_of_mem | apply List.mem_append_right)) | exact Sees.root (hR _ (by omega)) | exact Sees.own (RowsIn.mem (by repeat (first | exact RowsIn.here | exact RowsIn.last | apply RowsIn.there | apply RowsIn.thereS)) _ (by omega)) | exact Sees.own (WRowsIn.mem (by repeat (first | exact WRowsIn.here | exact WRowsIn.last | apply WRowsIn.there | apply WRowsIn.thereS)) _ (by omega))) rfl rfl rfl) ?_
                      refine SW.r rfl (.inl rfl) rfl (by decide) (yr_move rfl rfl) ?_
                      refine SW.r rfl (.inl rfl) rfl (by decide) (yr_move rfl rfl) ?_
                      refine SW.q rfl (.inl rfl) rfl (by decide) (yq_callf rfl known177_Desk (.cons rfl (.cons rfl (.cons rfl .nil))) (fun w hw => (c_coil (i := j) (j := i) (by first | exact Sees.root (by assumption) w hw | exact Sees.own (by repeat (first | exact List.mem_cons_self | exact List.mem_append_left _ (by assumption) | apply List.mem_cons_of_mem | apply List.mem_append_right)) w hw) (by omega) (by omega) (by omega) (by omega)))) ?_
                      refine SW.r rfl (.inl rfl) rfl (by decide) (yr_fcmp rfl (.inr (.inl rfl)) rfl rfl) ?_
                      refine SW.done ?_
                      refine VE.then_wp ?_
                      refine V.cond rfl (fun h17 => ?_) (fun h17 => ?_)
                      · skip
                        refine V.seq ?_
                        refine V.region ?_
                        refine VL.r (.inl rfl) rfl (by decide) (yr_assign (u := .bool false) rfl rfl) ?_
                        refine VL.nil ?_
                        refine VE.then_wp ?_
                        refine V.ret ?_
                        refine VE.block_ret ?_
                        refine VE.then_ret ?_
                        refine VE.then_ret ?_
                        refine VE.block_ret ?_
                        refine VE.block_ret ?_
                        refine VE.then_ret ?_
                        refine VE.then_ret ?_
                        refine VE.block_ret ?_
                        refine VE.then_ret ?_
                        refine ret1 rfl rfl (fun w1 hw => ?_)
                        first
                          | (obtain rfl : i = xs.length := by omega
                             exact ⟨congrArg Value.bool (circ_yes ⟨⟨by omega, by omega, by omega, by omega⟩, (by assumption), (by assumption), (by assumption), hI⟩), hw.below⟩)
                          | (refine ⟨congrArg Value.bool (circ_no fun hc => ?_), hw.below⟩
                             obtain ⟨⟨v1, v2, v3, v4⟩, v5, v6, v7, v8⟩ := hc
                             first
                               | omega
                               | (have h9 := (v8 i (by omega)).1; simp_all; done)
                               | (have h9 := (v8 i (by omega)).2 j (by omega); simp_all; done)
                               | (simp_all; done))
                      · skip
                        refine V.skip ?_
                        refine VE.block_normal ?_
                        refine VE.then_wp ?_
                        refine V.region ?_
                        refine VL.r (.inl rfl) rfl (by decide) (yr_int rfl rfl rfl (.inl ⟨rfl, wrap_in (by omega)⟩)) ?_
                        refine VL.r (.inl rfl) rfl (by decide) (yr_move rfl rfl) ?_
                        refine VL.nil ?_
                        refine VE.round (j + 1) ?_ ?_ ?_ ?_ ?_
                        · exact (.cons rfl .nil)
                        · exact (.cons rfl (.cons rfl (.cons rfl (.cons rfl (.cons rfl .nil)))))
                        · exact (fun w hw => hw)
                        · exact ⟨by omega, fun k hk => by rcases Nat.lt_or_ge k j with h | h; exact hJ k h; obtain rfl : k = j := (by omega); assumption⟩
                        · (try dsimp only); omega
                    · skip
                      replace h16 := ic_lss' h16
                      refine V.exit ?_
                      refine VE.then_exit ?_
                      refine VE.then_exit ?_
                      refine VE.block_here ?_
                      refine VE.block_normal ?_
                      refine VE.then_wp ?_
                      refine V.region ?_
                      refine VL.r (.inl rfl) rfl (by decide) (yr_int rfl rfl rfl (.inl ⟨rfl, wrap_in (by omega)⟩)) ?_
                      refine VL.r (.inl rfl) rfl (by decide) (yr_move rfl rfl) ?_
                      refine VL.nil ?_
                      refine VE.round (i + 1) ?_ ?_ ?_ ?_ ?_
                      · exact (.cons rfl .nil)
                      · exact (.cons rfl (.cons rfl .nil))
                      · exact (fun w hw => hw)
                      · obtain rfl : j = i := by omega
                        exact ⟨by omega, fun k hk => by rcases Nat.lt_or_ge k j with h | h; exact hI k h; obtain rfl : k = j := (by omega); exact ⟨by assumption, hJ⟩⟩
                      · (try dsimp only); omega
                · skip
                  replace h14 := ic_lss' h14
                  refine V.exit ?_
                  refine VE.then_exit ?_
                  refine VE.then_exit ?_
                  refine VE.block_here ?_
                  refine VE.then_wp ?_
                  refine V.seq ?_
                  refine V.region ?_
                  refine VL.r (.inl rfl) rfl (by decide) (yr_assign (u := .bool true) rfl rfl) ?_
                  refine VL.nil ?_
                  refine VE.then_wp ?_
                  refine V.ret ?_
                  refine ret1 rfl rfl (fun w1 hw => ?_)
                  first
                    | (obtain rfl : i = xs.length := by omega
                       exact ⟨congrArg Value.bool (circ_yes ⟨⟨by omega, by omega, by omega, by omega⟩, (by assumption), (by assumption), (by assumption), hI⟩), hw.below⟩)
                    | (refine ⟨congrArg Value.bool (circ_no fun hc => ?_), hw.below⟩
                       obtain ⟨⟨v1, v2, v3, v4⟩, v5, v6, v7, v8⟩ := hc
                       first
                         | omega
                         | (have h9 := (v8 i (by omega)).1; simp_all; done)
                         | (have h9 := (v8 i (by omega)).2 j (by omega); simp_all; done)
                         | (simp_all; done))

theorem c_l03Is {w : World} {q : Option Addr} {o : Nat} {all : List Value} {a1 a2 a3 : Option Addr} {c1 c2 c3 : Nat} {xs ys zs : List Nat} (hQ : Cl w q all) (g0 : all[o]? = some (.slice a1 xs.length c1)) (g1 : all[o + 1]? = some (.slice a2 ys.length c2)) (g2 : all[o + 2]? = some (.slice a3 zs.length c3)) (hx : Cl w a1 (fl xs)) (hy : Cl w a2 (fl ys)) (hz : Cl w a3 (fl zs)) (hcn : xs.length + ys.length + zs.length ≤ 1050000) : Pure Try.prog 171 [.pointer (some (adr q o))] w (.bool (circOk xs ys zs)) := by
  refine Pure.enter Try.func171 rfl Try.ntmps171 (Nat.le_of_ble_eq_true rfl) ?_
  refine V.seq ?_
  refine V.region ?_
  refine VL.r (.inl rfl) rfl (by decide) (yr_assign (u := .bool false) rfl rfl) ?_
  refine VL.nil ?_
  refine VE.then_wp ?_
  refine V.seq ?_
  refine V.region ?_
  refine VL.r (.inl rfl) rfl (by decide) (yr_move rfl rfl) ?_
  refine VL.r (.inl rfl) rfl (by decide) (yr_nilCheck rfl rfl) ?_
  refine VL.r (.inl rfl) rfl (by decide) (yr_fieldAddr rfl Try.underlying60 rfl rfl sz29_Desk (by decide) rfl) ?_
  refine VL.q (.inl rfl) rfl (by decide) (yq_load rfl fb29_Desk rfl (by first | exact Sees.root (by assumption) | exact Sees.own (by repeat (first | exact List.mem_cons_self | exact List.mem_append_left _ (by assumption) | apply List.mem_cons_of_mem | apply List.mem_append_right)) | exact Sees.root (hR _ (by omega)) | exact Sees.own (RowsIn.mem (by repeat (first | exact RowsIn.here | exact RowsIn.last | apply RowsIn.there | apply RowsIn.thereS)) _ (by omega)) | exact Sees.own (WRowsIn.mem (by repeat (first | exact WRowsIn.here | exact WRowsIn.last | apply WRowsIn.there | apply WRowsIn.thereS)) _ (by omega))) (by first | rfl | assumption)) ?_
  refine VL.r (.inl rfl) rfl (by decide) (yr_len rfl Try.underlying29 rfl) ?_
  refine VL.r (.inl rfl) rfl (by decide) (yr_assign rfl rfl) ?_
  refine VL.nil ?_
  refine VE.then_wp ?_
  refine V.seq ?_
  refine V.seq ?_
  refine V.region ?_
  refine VL.r (.inl rfl) rfl (by decide) (yr_move rfl rfl) ?_
  refine VL.r (.inl rfl) rfl (by decide) (yr_icmp rfl (.inr (.inr (.inl rfl))) rfl rfl) ?_
  refine VL.r (.inl rfl) rfl (by decide) (yr_move rfl rfl) ?_
  refine VX.split 13 _ rfl (fun h1 => ?_) (fun h1 => ?_)
  · skip
    replace h1 := ic_lss h1
    refine VL.no rfl rfl rfl rfl rfl (by decide) ?_
    refine VL.no rfl rfl rfl rfl rfl (by decide) ?_
    refine VL.r (.inl rfl) rfl (by decide) (yr_pick_t (u := .bool true) rfl rfl rfl) ?_
    refine VL.r (.inl rfl) rfl (by decide) (yr_move rfl rfl) ?_
    refine VL.no rfl rfl rfl rfl rfl (by decide) ?_
    refine VL.no rfl rfl rfl rfl rfl (by decide) ?_
    refine VL.no rfl rfl rfl rfl rfl (by decide) ?_
    refine VL.no rfl rfl rfl rfl rfl (by decide) ?_
    refine VL.no rfl rfl rfl rfl rfl (by decide) ?_
    refine VL.no rfl rfl rfl rfl rfl (by decide) ?_
    refine VL.no rfl rfl rfl rfl rfl (by decide) ?_
    refine VL.r (.inl rfl) rfl (by decide) (yr_pick_t (u := .bool true) rfl rfl rfl) ?_
    refine VL.r (.inl rfl) rfl (by decide) (yr_move rfl rfl) ?_
    refine VL.no rfl rfl rfl rfl rfl (by decide) ?_
    refine VL.no rfl rfl rfl rfl rfl (by decide) ?_
    refine VL.no rfl rfl rfl rfl rfl (by decide) ?_
    refine VL.no rfl rfl rfl rfl rfl (by decide) ?_
    refine VL.no rfl rfl rfl rfl rfl (by decide) ?_
    refine VL.no rfl rfl rfl rfl rfl (by decide) ?_
    refine VL.no rfl rfl rfl rfl rfl (by decide) ?_
    refine VL.no rfl rfl rfl rfl rfl (by decide) ?_
    refine VL.no rfl rfl rfl rfl rfl (by decide) ?_
    refine VL.r (.inl rfl) rfl (by decide) (yr_pick_t (u := .bool true) rfl rfl rfl) ?_
    refine VL.nil ?_
    refine VE.then_wp ?_
    refine V.condT rfl ?_
    refine V.seq ?_
    refine V.region ?_
    refine VL.r (.inl rfl) rfl (by decide) (yr_assign (u := .bool false) rfl rfl) ?_
    refine VL.nil ?_
    refine VE.then_wp ?_
    refine V.ret ?_
    refine VE.then_ret ?_
    refine ret1 rfl rfl (fun w1 hw => ?_)
    first
      | (obtain rfl : i = xs.length := by omega
         exact ⟨congrArg Value.bool (circ_yes ⟨⟨by omega, by omega, by omega, by omega⟩, (all_getD.2 fun k hk => (hI k hk).1), (all_getD.2 fun k hk => (hI k (by omega)).2.1), (circ_fin (by omega) fun k j hk hj => ((hI k hk).2.2.2 j hj).1), (fun k hk => ⟨(hI k hk).2.2.1, fun j hj => ((hI k hk).2.2.2 j (by omega)).2⟩)⟩), hw.below⟩)
      | (refine ⟨congrArg Value.bool (circ_no fun hc => ?_), hw.below⟩
         obtain ⟨⟨v1, v2, v3, v4⟩, v5, v6, v7, v8⟩ := hc
         first
           | omega
           | (have h9 := getD_all (p := least) v5 (i := i) (by omega); simp_all; done)
           | (have h9 := getD_all (p := least) v6 (i := i) (by omega); simp_all; done)
           | (have h9 := (v8 i (by omega)).1; unfold coil at h9; simp_all; done)
           | (have h8 := sq_lt (n := xs.length) (i := i) (j := j) (by omega) (by omega)
              have h9 := getD_all (p := fin) v7 (i := i * xs.length + j) (by omega)
              simp_all; done)
           | (have h8 := circ_sym v7 v4 v8 (i := i) (j := j) (by omega) (by omega)
              unfold coil at h8
              simp_all; done))
  · skip
    replace h1 := ic_lss' h1
    refine VL.r (.inr ⟨_, _, _, rfl, rfl, rfl⟩) rfl (by decide) (yr_move rfl rfl) ?_
    refine VL.r (.inr ⟨_, _, _, rfl, rfl, rfl⟩) rfl (by decide) (yr_icmp rfl (.inr (.inr (.inr (.inr (.inl rfl))))) rfl rfl) ?_
    refine VL.r (.inl rfl) rfl (by decide) (yr_pick_f rfl rfl rfl) ?_
    refine VL.r (.inl rfl) rfl (by decide) (yr_move rfl rfl) ?_
    refine VX.split 17 _ rfl (fun h3 => ?_) (fun h3 => ?_)
    · skip
      replace h3 := ic_gtr h3
      refine VL.no rfl rfl rfl rfl rfl (by decide) ?_
      refine VL.no rfl rfl rfl rfl rfl (by decide) ?_
      refine VL.no rfl rfl rfl rfl rfl (by decide) ?_
      refine VL.no rfl rfl rfl rfl rfl (by decide) ?_
      refine VL.no rfl rfl rfl rfl rfl (by decide) ?_
      refine VL.no rfl rfl rfl rfl rfl (by decide) ?_
      refine VL.no rfl rfl rfl rfl rfl (by decide) ?_
      refine VL.r (.inl rfl) rfl (by decide) (yr_pick_t (u := .bool true) rfl rfl rfl) ?_
      refine VL.r (.inl rfl) rfl (by decide) (yr_move rfl rfl) ?_
      refine VL.no rfl rfl rfl rfl rfl (by decide) ?_
      refine VL.no rfl rfl rfl rfl rfl (by decide) ?_
      refine VL.no rfl rfl rfl rfl rfl (by decide) ?_
      refine VL.no rfl rfl rfl rfl rfl (by decide) ?_
      refine VL.no rfl rfl rfl rfl rfl (by decide) ?_
      refine VL.no rfl rfl rfl rfl rfl (by decide) ?_
      refine VL.no rfl rfl rfl rfl rfl (by decide) ?_
      refine VL.no rfl rfl rfl rfl rfl (by decide) ?_
      refine VL.no rfl rfl rfl rfl rfl (by decide) ?_
      refine VL.r (.inl rfl) rfl (by decide) (yr_pick_t (u := .bool true) rfl rfl rfl) ?_
      refine VL.nil ?_
      refine VE.then_wp ?_
      refine V.condT rfl ?_
      refine V.seq ?_
      refine V.region ?_
      refine VL.r (.inl rfl) rfl (by decide) (yr_assign (u := .bool false) rfl rfl) ?_
      refine VL.nil ?_
      refine VE.then_wp ?_
      refine V.ret ?_
      refine VE.then_ret ?_
      refine ret1 rfl rfl (fun w1 hw => ?_)
      first
        | (obtain rfl : i = xs.length := by omega
           exact ⟨congrArg Value.bool (circ_yes ⟨⟨by omega, by omega, by omega, by omega⟩, (all_getD.2 fun k hk => (hI k hk).1), (all_getD.2 fun k hk => (hI k (by omega)).2.1), (circ_fin (by omega) fun k j hk hj => ((hI k hk).2.2.2 j hj).1), (fun k hk => ⟨(hI k hk).2.2.1, fun j hj => ((hI k hk).2.2.2 j (by omega)).2⟩)⟩), hw.below⟩)
        | (refine ⟨congrArg Value.bool (circ_no fun hc => ?_), hw.below⟩
           obtain ⟨⟨v1, v2, v3, v4⟩, v5, v6, v7, v8⟩ := hc
           first
             | omega
             | (have h9 := getD_all (p := least) v5 (i := i) (by omega); simp_all; done)
             | (have h9 := getD_all (p := least) v6 (i := i) (by omega); simp_all; done)
             | (have h9 := (v8 i (by omega)).1; unfold coil at h9; simp_all; done)
             | (have h8 := sq_lt (n := xs.length) (i := i) (j := j) (by omega) (by omega)
                have h9 := getD_all (p := fin) v7 (i := i * xs.length + j) (by omega)
                simp_all; done)
             | (have h8 := circ_sym v7 v4 v8 (i := i) (j := j) (by omega) (by omega)
                unfold coil at h8
                simp_all; done))
    · skip
      replace h3 := ic_gtr' h3
      refine VL.r (.inr ⟨_, _, _, rfl, rfl, rfl⟩) rfl (by decide) (yr_move rfl rfl) ?_
      refine VL.r (.inr ⟨_, _, _, rfl, rfl, rfl⟩) rfl (by decide) (yr_nilCheck rfl rfl) ?_
      refine VL.r (.inr ⟨_, _, _, rfl, rfl, rfl⟩) rfl (by decide) (yr_fieldAddr rfl Try.underlying60 rfl rfl sz29_Desk (by decide) rfl) ?_
      refine VL.q (.inr ⟨_, _, _, rfl, rfl, rfl⟩) rfl (by decide) (yq_load rfl fb29_Desk rfl (by first | exact Sees.root (by assumption) | exact Sees.own (by repeat (first | exact List.mem_cons_self | exact List.mem_append_left _ (by assumption) | apply List.mem_cons_of_mem | apply List.mem_append_right)) | exact Sees.root (hR _ (by omega)) | exact Sees.own (RowsIn.mem (by repeat (first | exact RowsIn.here | exact RowsIn.last | apply RowsIn.there | apply RowsIn.thereS)) _ (by omega)) | exact Sees.own (WRowsIn.mem (by repeat (first | exact WRowsIn.here | exact WRowsIn.last | apply WRowsIn.there | apply WRowsIn.thereS)) _ (by omega))) (by first | rfl | assumption)) ?_
      refine VL.r (.inr ⟨_, _, _, rfl, rfl, rfl⟩) rfl (by decide) (yr_len rfl Try.underlying29 rfl) ?_
      refine VL.r (.inr ⟨_, _, _, rfl, rfl, rfl⟩) rfl (by decide) (yr_move rfl rfl) ?_
      refine VL.r (.inr ⟨_, _, _, rfl, rfl, rfl⟩) rfl (by decide) (yr_icmp rfl (.inr (.inl rfl)) rfl rfl) ?_
      refine VL.r (.inl rfl) rfl (by decide) (yr_pick_f rfl rfl rfl) ?_
      refine VL.r (.inl rfl) rfl (by decide) (yr_move rfl rfl) ?_
      refine VX.split 26 _ rfl (fun h5 => ?_) (fun h5 => ?_)
      · skip
        replace h5 := ic_neq h5
        refine VL.no rfl rfl rfl rfl rfl (by decide) ?_
        refine VL.no rfl rfl rfl rfl rfl (by decide) ?_
        refine VL.no rfl rfl rfl rfl rfl (by decide) ?_
        refine VL.no rfl rfl rfl rfl rfl (by decide) ?_
        refine VL.no rfl rfl rfl rfl rfl (by decide) ?_
        refine VL.no rfl rfl rfl rfl rfl (by decide) ?_
        refine VL.no rfl rfl rfl rfl rfl (by decide) ?_
        refine VL.no rfl rfl rfl rfl rfl (by decide) ?_
        refine VL.no rfl rfl rfl rfl rfl (by decide) ?_
        refine VL.r (.inl rfl) rfl (by decide) (yr_pick_t (u := .bool true) rfl rfl rfl) ?_
        refine VL.nil ?_
        refine VE.then_wp ?_
        refine V.condT rfl ?_
        refine V.seq ?_
        refine V.region ?_
        refine VL.r (.inl rfl) rfl (by decide) (yr_assign (u := .bool false) rfl rfl) ?_
        refine VL.nil ?_
        refine VE.then_wp ?_
        refine V.ret ?_
        refine VE.then_ret ?_
        refine ret1 rfl rfl (fun w1 hw => ?_)
        first
          | (obtain rfl : i = xs.length := by omega
             exact ⟨congrArg Value.bool (circ_yes ⟨⟨by omega, by omega, by omega, by omega⟩, (all_getD.2 fun k hk => (hI k hk).1), (all_getD.2 fun k hk => (hI k (by omega)).2.1), (circ_fin (by omega) fun k j hk hj => ((hI k hk).2.2.2 j hj).1), (fun k hk => ⟨(hI k hk).2.2.1, fun j hj => ((hI k hk).2.2.2 j (by omega)).2⟩)⟩), hw.below⟩)
          | (refine ⟨congrArg Value.bool (circ_no fun hc => ?_), hw.below⟩
             obtain ⟨⟨v1, v2, v3, v4⟩, v5, v6, v7, v8⟩ := hc
             first
               | omega
               | (have h9 := getD_all (p := least) v5 (i := i) (by omega); simp_all; done)
               | (have h9 := getD_all (p := least) v6 (i := i) (by omega); simp_all; done)
               | (have h9 := (v8 i (by omega)).1; unfold coil at h9; simp_all; done)
               | (have h8 := sq_lt (n := xs.length) (i := i) (j := j) (by omega) (by omega)
                  have h9 := getD_all (p := fin) v7 (i := i * xs.length + j) (by omega)
                  simp_all; done)
               | (have h8 := circ_sym v7 v4 v8 (i := i) (j := j) (by omega) (by omega)
                  unfold coil at h8
                  simp_all; done))
      · skip
        replace h5 := ic_neq' h5
        refine VL.r (.inr ⟨_, _, _, rfl, rfl, rfl⟩) rfl (by decide) (yr_move rfl rfl) ?_
        refine VL.r (.inr ⟨_, _, _, rfl, rfl, rfl⟩) rfl (by decide) (yr_nilCheck rfl rfl) ?_
        refine VL.r (.inr ⟨_, _, _, rfl, rfl, rfl⟩) rfl (by decide) (yr_fieldAddr rfl Try.underlying60 rfl rfl sz29_Desk (by decide) rfl) ?_
        refine VL.q (.inr ⟨_, _, _, rfl, rfl, rfl⟩) rfl (by decide) (yq_load rfl fb29_Desk rfl (by first | exact Sees.root (by assumption) | exact Sees.own (by repeat (first | exact List.mem_cons_self | exact List.mem_append_left _ (by assumption) | apply List.mem_cons_of_mem | apply List.mem_append_right)) | exact Sees.root (hR _ (by omega)) | exact Sees.own (RowsIn.mem (by repeat (first | exact RowsIn.here | exact RowsIn.last | apply RowsIn.there | apply RowsIn.thereS)) _ (by omega)) | exact Sees.own (WRowsIn.mem (by repeat (first | exact WRowsIn.here | exact WRowsIn.last | apply WRowsIn.there | apply WRowsIn.thereS)) _ (by omega))) (by first | rfl | assumption)) ?_
        refine VL.r (.inr ⟨_, _, _, rfl, rfl, rfl⟩) rfl (by decide) (yr_len rfl Try.underlying29 rfl) ?_
        refine VL.r (.inr ⟨_, _, _, rfl, rfl, rfl⟩) rfl (by decide) (yr_move rfl rfl) ?_
        refine VL.r (.inr ⟨_, _, _, rfl, rfl, rfl⟩) rfl (by decide) (yr_move rfl rfl) ?_
        refine VL.r (.inr ⟨_, _, _, rfl, rfl, rfl⟩) rfl (by decide) (yr_mulN xs.length xs.length rfl rfl rfl (by omega) (by omega) (Nat.le_trans (Nat.mul_le_mul (show _ ≤ 6 by omega) (show xs.length ≤ 6 by omega)) (by decide))) ?_
        refine VL.r (.inr ⟨_, _, _, rfl, rfl, rfl⟩) rfl (by decide) (yr_icmp rfl (.inr (.inl rfl)) rfl rfl) ?_
        refine VL.r (.inl rfl) rfl (by decide) (yr_pick_f rfl rfl rfl) ?_
        refine VL.nil ?_
        refine VE.then_wp ?_
        refine V.cond rfl (fun h7 => ?_) (fun h7 => ?_)
        · skip
          replace h7 := ic_neq h7
          refine V.seq ?_
          refine V.region ?_
          refine VL.r (.inl rfl) rfl (by decide) (yr_assign (u := .bool false) rfl rfl) ?_
          refine VL.nil ?_
          refine VE.then_wp ?_
          refine V.ret ?_
          refine VE.then_ret ?_
          refine ret1 rfl rfl (fun w1 hw => ?_)
          first
            | (obtain rfl : i = xs.length := by omega
               exact ⟨congrArg Value.bool (circ_yes ⟨⟨by omega, by omega, by omega, by omega⟩, (all_getD.2 fun k hk => (hI k hk).1), (all_getD.2 fun k hk => (hI k (by omega)).2.1), (circ_fin (by omega) fun k j hk hj => ((hI k hk).2.2.2 j hj).1), (fun k hk => ⟨(hI k hk).2.2.1, fun j hj => ((hI k hk).2.2.2 j (by omega)).2⟩)⟩), hw.below⟩)
            | (refine ⟨congrArg Value.bool (circ_no fun hc => ?_), hw.below⟩
               obtain ⟨⟨v1, v2, v3, v4⟩, v5, v6, v7, v8⟩ := hc
               first
                 | omega
                 | (have h9 := getD_all (p := least) v5 (i := i) (by omega); simp_all; done)
                 | (have h9 := getD_all (p := least) v6 (i := i) (by omega); simp_all; done)
                 | (have h9 := (v8 i (by omega)).1; unfold coil at h9; simp_all; done)
                 | (have h8 := sq_lt (n := xs.length) (i := i) (j := j) (by omega) (by omega)
                    have h9 := getD_all (p := fin) v7 (i := i * xs.length + j) (by omega)
                    simp_all; done)
                 | (have h8 := circ_sym v7 v4 v8 (i := i) (j := j) (by omega) (by omega)
                    unfold coil at h8
                    simp_all; done))
        · skip
          replace h7 := ic_neq' h7
          refine V.skip ?_
          refine VE.then_wp ?_
          refine V.seq ?_
          refine V.seq ?_
          refine V.region ?_
          refine VL.r (.inl rfl) rfl (by decide) (yr_assign (u := .int .i64 0) rfl rfl) ?_
          refine VL.nil ?_
          refine VE.then_wp ?_
          refine V.block ?_
          refine V.loops (G := Nat) [(0, _), (3, _)] (fun (i : Nat) => i ≤ xs.length ∧ ∀ k, k < i → least (xs.getD k 0) = true ∧ least (ys.getD k 0) = true ∧ fcmp .gtr .f32 (coil zs xs.length k k) 0 = true ∧ ∀ j, j < xs.length → fin (coil zs xs.length k j) = true ∧ fcmp .neq .f32 (coil zs xs.length k j) (coil zs xs.length j k) = false) (fun (i : Nat) => [(4, .int .i64 (i : Int))]) (fun (i : Nat) => xs.length - i) 0 (.cons rfl (.cons rfl .nil)) (.cons rfl .nil) ?_ ?_
          · exact (by exact ⟨by omega, fun j h => by omega⟩)
          rintro i ⟨hi, hI⟩
          show V _ _ _ _ ([(4, .int .i64 (i : Int))] ++ [(0, _), (3, _)]) _ _
          have hin : i * xs.length ≤ 36 := Nat.mul_le_mul (show i ≤ 6 by omega) (show xs.length ≤ 6 by omega)
          refine V.seq ?_
          refine V.seq ?_
          refine V.region ?_
          refine VL.r (.inl rfl) rfl (by decide) (yr_move rfl rfl) ?_
          refine VL.r (.inl rfl) rfl (by decide) (yr_move rfl rfl) ?_
          refine VL.r (.inl rfl) rfl (by decide) (yr_icmp rfl (.inr (.inr (.inl rfl))) rfl rfl) ?_
          refine VL.nil ?_
          refine VE.then_wp ?_
          refine V.cond rfl (fun h8 => ?_) (fun h8 => ?_)
          · skip
            replace h8 := ic_lss h8
            refine V.skip ?_
            refine VE.then_wp ?_
            refine V.seq ?_
            refine V.block ?_
            refine V.seq ?_
            refine V.seq ?_
            refine V.region ?_
            refine VL.r (.inl rfl) rfl (by decide) (yr_move rfl rfl) ?_
            refine VL.r (.inl rfl) rfl (by decide) (yr_nilCheck rfl rfl) ?_
            refine VL.r (.inl rfl) rfl (by decide) (yr_fieldAddr rfl Try.underlying60 rfl rfl sz29_Desk (by decide) rfl) ?_
            refine VL.q (.inl rfl) rfl (by decide) (yq_load rfl fb29_Desk rfl (by first | exact Sees.root (by assumption) | exact Sees.own (by repeat (first | exact List.mem_cons_self | exact List.mem_append_left _ (by assumption) | apply List.mem_cons_of_mem | apply List.mem_append_right)) | exact Sees.root (hR _ (by omega)) | exact Sees.own (RowsIn.mem (by repeat (first | exact RowsIn.here | exact RowsIn.last | apply RowsIn.there | apply RowsIn.thereS)) _ (by omega)) | exact Sees.own (WRowsIn.mem (by repeat (first | exact WRowsIn.here | exact WRowsIn.last | apply WRowsIn.there | apply WRowsIn.thereS)) _ (by omega))) (by first | rfl | assumption)) ?_
            refine VL.r (.inl rfl) rfl (by decide) (yr_move rfl rfl) ?_
            refine VL.q (.inl rfl) rfl (by decide) (yq_idx (k := i) rfl Try.underlying29 sz22_Desk rfl rfl (by first | exact Sees.root (by assumption) | exact Sees.own (by repeat (first | exact List.mem_cons_self | exact List.mem_append_left _ (by assumption) | apply List.mem_cons_of_mem | apply List.mem_append_right)) | exact Sees.root (hR _ (by omega)) | exact Sees.own (RowsIn.mem (by repeat (first | exact RowsIn.here | exact RowsIn.last | apply RowsIn.there | apply RowsIn.thereS)) _ (by omega)) | exact Sees.own (WRowsIn.mem (by repeat (first | exact WRowsIn.here | exact WRowsIn.last | apply WRowsIn.there | apply WRowsIn.thereS)) _ (by omega))) (by first | rfl | omega | (push_cast; rfl) | (push_cast; omega) | exact tmod_nat _ _) (by exact fl_length _) (by first | omega | (have h9 := sq_lt (n := xs.length) (i := i) (j := i) (by omega) (by omega); omega) | (have h9 := sq_lt (n := xs.length) (i := i) (j := j) (by omega) (by omega); omega) | (have h9 := sq_lt (n := xs.length) (i := j) (j := i) (by omega) (by omega); omega))) ?_
            refine VL.q (.inl rfl) rfl (by decide) (yq_loadF rfl fb22_Desk rfl (by first | exact Sees.root (by assumption) | exact Sees.own (by repeat (first | exact List.mem_cons_self | exact List.mem_append_left _ (by assumption) | apply List.mem_cons_of_mem | apply List.mem_append_right)) | exact Sees.root (hR _ (by omega)) | exact Sees.own (RowsIn.mem (by repeat (first | exact RowsIn.here | exact RowsIn.last | apply RowsIn.there | apply RowsIn.thereS)) _ (by omega)) | exact Sees.own (WRowsIn.mem (by repeat (first | exact WRowsIn.here | exact WRowsIn.last | apply WRowsIn.there | apply WRowsIn.thereS)) _ (by omega))) (by first | omega | (have h9 := sq_lt (n := xs.length) (i := i) (j := i) (by omega) (by omega); omega) | (have h9 := sq_lt (n := xs.length) (i := i) (j := j) (by omega) (by omega); omega) | (have h9 := sq_lt (n := xs.length) (i := j) (j := i) (by omega) (by omega); omega))) ?_
            refine VL.q (.inl rfl) rfl (by decide) (yq_callf rfl known159_Desk (.cons rfl .nil) (fun w hw => c_l03Least _)) ?_
            refine VL.r (.inl rfl) rfl (by decide) (yr_not rfl rfl) ?_
            refine VL.r (.inl rfl) rfl (by decide) (yr_move rfl rfl) ?_
            refine VX.split 51 _ rfl (fun h9 => ?_) (fun h9 => ?_)
            · skip
              replace h9 := bnot_t h9
              refine VL.no rfl rfl rfl rfl rfl (by decide) ?_
              refine VL.no rfl rfl rfl rfl rfl (by decide) ?_
              refine VL.no rfl rfl rfl rfl rfl (by decide) ?_
              refine VL.no rfl rfl rfl rfl rfl (by decide) ?_
              refine VL.no rfl rfl rfl rfl rfl (by decide) ?_
              refine VL.no rfl rfl rfl rfl rfl (by decide) ?_
              refine VL.no rfl rfl rfl rfl rfl (by decide) ?_
              refine VL.no rfl rfl rfl rfl rfl (by decide) ?_
              refine VL.no rfl rfl rfl rfl rfl (by decide) ?_
              refine VL.r (.inl rfl) rfl (by decide) (yr_pick_t (u := .bool true) rfl rfl rfl) ?_
              refine VL.r (.inl rfl) rfl (by decide) (yr_move rfl rfl) ?_
              refine VL.no rfl rfl rfl rfl rfl (by decide) ?_
              refine VL.no rfl rfl rfl rfl rfl (by decide) ?_
              refine VL.no rfl rfl rfl rfl rfl (by decide) ?_
              refine VL.no rfl rfl rfl rfl rfl (by decide) ?_
              refine VL.no rfl rfl rfl rfl rfl (by decide) ?_
              refine VL.no rfl rfl rfl rfl rfl (by decide) ?_
              refine VL.no rfl rfl rfl rfl rfl (by decide) ?_
              refine VL.no rfl rfl rfl rfl rfl (by decide) ?_
              refine VL.no rfl rfl rfl rfl rfl (by decide) ?_
              refine VL.no rfl rfl rfl rfl rfl (by decide) ?_
              refine VL.no rfl rfl rfl rfl rfl (by decide) ?_
              refine VL.no rfl rfl rfl rfl rfl (by decide) ?_
              refine VL.no rfl rfl rfl rfl rfl (by decide) ?_
              refine VL.r (.inl rfl) rfl (by decide) (yr_pick_t (u := .bool true) rfl rfl rfl) ?_
              refine VL.nil ?_
              refine VE.then_wp ?_
              refine V.condT rfl ?_
              refine V.seq ?_
              refine V.region ?_
              refine VL.r (.inl rfl) rfl (by decide) (yr_assign (u := .bool false) rfl rfl) ?_
              refine VL.nil ?_
              refine VE.then_wp ?_
              refine V.ret ?_
              refine VE.then_ret ?_
              refine VE.block_ret ?_
              refine VE.then_ret ?_
              refine VE.then_ret ?_
              refine VE.block_ret ?_
              refine VE.then_ret ?_
              refine ret1 rfl rfl (fun w1 hw => ?_)
              first
                | (obtain rfl : i = xs.length := by omega
                   exact ⟨congrArg Value.bool (circ_yes ⟨⟨by omega, by omega, by omega, by omega⟩, (all_getD.2 fun k hk => (hI k hk).1), (all_getD.2 fun k hk => (hI k (by omega)).2.1), (circ_fin (by omega) fun k j hk hj => ((hI k hk).2.2.2 j hj).1), (fun k hk => ⟨(hI k hk).2.2.1, fun j hj => ((hI k hk).2.2.2 j (by omega)).2⟩)⟩), hw.below⟩)
                | (refine ⟨congrArg Value.bool (circ_no fun hc => ?_), hw.below⟩
                   obtain ⟨⟨v1, v2, v3, v4⟩, v5, v6, v7, v8⟩ := hc
                   first
                     | omega
                     | (have h9 := getD_all (p := least) v5 (i := i) (by omega); simp_all; done)
                     | (have h9 := getD_all (p := least) v6 (i := i) (by omega); simp_all; done)
                     | (have h9 := (v8 i (by omega)).1; unfold coil at h9; simp_all; done)
                     | (have h8 := sq_lt (n := xs.length) (i := i) (j := j) (by omega) (by omega)
                        have h9 := getD_all (p := fin) v7 (i := i * xs.length + j) (by omega)
                        simp_all; done)
                     | (have h8 := circ_sym v7 v4 v8 (i := i) (j := j) (by omega) (by omega)
                        unfold coil at h8
                        simp_all; done))
            · skip
              replace h9 := bnot_f h9
              refine VL.r (.inr ⟨_, _, _, rfl, rfl, rfl⟩) rfl (by decide) (yr_move rfl rfl) ?_
              refine VL.r (.inr ⟨_, _, _, rfl, rfl, rfl⟩) rfl (by decide) (yr_nilCheck rfl rfl) ?_
              refine VL.r (.inr ⟨_, _, _, rfl, rfl, rfl⟩) rfl (by decide) (yr_fieldAddr rfl Try.underlying60 rfl rfl sz29_Desk (by decide) rfl) ?_
              refine VL.q (.inr ⟨_, _, _, rfl, rfl, rfl⟩) rfl (by decide) (yq_load rfl fb29_Desk rfl (by first | exact Sees.root (by assumption) | exact Sees.own (by repeat (first | exact List.mem_cons_self | exact List.mem_append_left _ (by assumption) | apply List.mem_cons_of_mem | apply List.mem_append_right)) | exact Sees.root (hR _ (by omega)) | exact Sees.own (RowsIn.mem (by repeat (first | exact RowsIn.here | exact RowsIn.last | apply RowsIn.there | apply RowsIn.thereS)) _ (by omega)) | exact Sees.own (WRowsIn.mem (by repeat (first | exact WRowsIn.here | exact WRowsIn.last | apply WRowsIn.there | apply WRowsIn.thereS)) _ (by omega))) (by first | rfl | assumption)) ?_
              refine VL.r (.inr ⟨_, _, _, rfl, rfl, rfl⟩) rfl (by decide) (yr_move rfl rfl) ?_
              refine VL.q (.inr ⟨_, _, _, rfl, rfl, rfl⟩) rfl (by decide) (yq_idx (k := i) rfl Try.underlying29 sz22_Desk rfl rfl (by first | exact Sees.root (by assumption) | exact Sees.own (by repeat (first | exact List.mem_cons_self | exact List.mem_append_left _ (by assumption) | apply List.mem_cons_of_mem | apply List.mem_append_right)) | exact Sees.root (hR _ (by omega)) | exact Sees.own (RowsIn.mem (by repeat (first | exact RowsIn.here | exact RowsIn.last | apply RowsIn.there | apply RowsIn.thereS)) _ (by omega)) | exact Sees.own (WRowsIn.mem (by repeat (first | exact WRowsIn.here | exact WRowsIn.last | apply WRowsIn.there | apply WRowsIn.thereS)) _ (by omega))) (by first | rfl | omega | (push_cast; rfl) | (push_cast; omega) | exact tmod_nat _ _) (by exact fl_length _) (by first | omega | (have h9 := sq_lt (n := xs.length) (i := i) (j := i) (by omega) (by omega); omega) | (have h9 := sq_lt (n := xs.length) (i := i) (j := j) (by omega) (by omega); omega) | (have h9 := sq_lt (n := xs.length) (i := j) (j := i) (by omega) (by omega); omega))) ?_
              refine VL.q (.inr ⟨_, _, _, rfl, rfl, rfl⟩) rfl (by decide) (yq_loadF rfl fb22_Desk rfl (by first | exact Sees.root (by assumption) | exact Sees.own (by repeat (first | exact List.mem_cons_self | exact List.mem_append_left _ (by assumption) | apply List.mem_cons_of_mem | apply List.mem_append_right)) | exact Sees.root (hR _ (by omega)) | exact Sees.own (RowsIn.mem (by repeat (first | exact RowsIn.here | exact RowsIn.last | apply RowsIn.there | apply RowsIn.thereS)) _ (by omega)) | exact Sees.own (WRowsIn.mem (by repeat (first | exact WRowsIn.here | exact WRowsIn.last | apply WRowsIn.there | apply WRowsIn.thereS)) _ (by omega))) (by first | omega | (have h9 := sq_lt (n := xs.length) (i := i) (j := i) (by omega) (by omega); omega) | (have h9 := sq_lt (n := xs.length) (i := i) (j := j) (by omega) (by omega); omega) | (have h9 := sq_lt (n := xs.length) (i := j) (j := i) (by omega) (by omega); omega))) ?_
              refine VL.q (.inr ⟨_, _, _, rfl, rfl, rfl⟩) rfl (by decide) (yq_callf rfl known159_Desk (.cons rfl .nil) (fun w hw => c_l03Least _)) ?_
              refine VL.r (.inr ⟨_, _, _, rfl, rfl, rfl⟩) rfl (by decide) (yr_not rfl rfl) ?_
              refine VL.r (.inl rfl) rfl (by decide) (yr_pick_f rfl rfl rfl) ?_
              refine VL.r (.inl rfl) rfl (by decide) (yr_move rfl rfl) ?_
              refine VX.split 62 _ rfl (fun h11 => ?_) (fun h11 => ?_)
              · skip
                replace h11 := bnot_t h11
                refine VL.no rfl rfl rfl rfl rfl (by decide) ?_
                refine VL.no rfl rfl rfl rfl rfl (by decide) ?_
                refine VL.no rfl rfl rfl rfl rfl (by decide) ?_
                refine VL.no rfl rfl rfl rfl rfl (by decide) ?_
                refine VL.no rfl rfl rfl rfl rfl (by decide) ?_
                refine VL.no rfl rfl rfl rfl rfl (by decide) ?_
                refine VL.no rfl rfl rfl rfl rfl (by decide) ?_
                refine VL.no rfl rfl rfl rfl rfl (by decide) ?_
                refine VL.no rfl rfl rfl rfl rfl (by decide) ?_
                refine VL.no rfl rfl rfl rfl rfl (by decide) ?_
                refine VL.no rfl rfl rfl rfl rfl (by decide) ?_
                refine VL.no rfl rfl rfl rfl rfl (by decide) ?_
                refine VL.no rfl rfl rfl rfl rfl (by decide) ?_
                refine VL.r (.inl rfl) rfl (by decide) (yr_pick_t (u := .bool true) rfl rfl rfl) ?_
                refine VL.nil ?_
                refine VE.then_wp ?_
                refine V.condT rfl ?_
                refine V.seq ?_
                refine V.region ?_
                refine VL.r (.inl rfl) rfl (by decide) (yr_assign (u := .bool false) rfl rfl) ?_
                refine VL.nil ?_
                refine VE.then_wp ?_
                refine V.ret ?_
                refine VE.then_ret ?_
                refine VE.block_ret ?_
                refine VE.then_ret ?_
                refine VE.then_ret ?_
                refine VE.block_ret ?_
                refine VE.then_ret ?_
                refine ret1 rfl rfl (fun w1 hw => ?_)
                first
                  | (obtain rfl : i = xs.length := by omega
                     exact ⟨congrArg Value.bool (circ_yes ⟨⟨by omega, by omega, by omega, by omega⟩, (all_getD.2 fun k hk => (hI k hk).1), (all_getD.2 fun k hk => (hI k (by omega)).2.1), (circ_fin (by omega) fun k j hk hj => ((hI k hk).2.2.2 j hj).1), (fun k hk => ⟨(hI k hk).2.2.1, fun j hj => ((hI k hk).2.2.2 j (by omega)).2⟩)⟩), hw.below⟩)
                  | (refine ⟨congrArg Value.bool (circ_no fun hc => ?_), hw.below⟩
                     obtain ⟨⟨v1, v2, v3, v4⟩, v5, v6, v7, v8⟩ := hc
                     first
                       | omega
                       | (have h9 := getD_all (p := least) v5 (i := i) (by omega); simp_all; done)
                       | (have h9 := getD_all (p := least) v6 (i := i) (by omega); simp_all; done)
                       | (have h9 := (v8 i (by omega)).1; unfold coil at h9; simp_all; done)
                       | (have h8 := sq_lt (n := xs.length) (i := i) (j := j) (by omega) (by omega)
                          have h9 := getD_all (p := fin) v7 (i := i * xs.length + j) (by omega)
                          simp_all; done)
                       | (have h8 := circ_sym v7 v4 v8 (i := i) (j := j) (by omega) (by omega)
                          unfold coil at h8
                          simp_all; done))
              · skip
                replace h11 := bnot_f h11
                refine VL.r (.inr ⟨_, _, _, rfl, rfl, rfl⟩) rfl (by decide) (yr_move rfl rfl) ?_
                refine VL.r (.inr ⟨_, _, _, rfl, rfl, rfl⟩) rfl (by decide) (yr_nilCheck rfl rfl) ?_
                refine VL.r (.inr ⟨_, _, _, rfl, rfl, rfl⟩) rfl (by decide) (yr_fieldAddr rfl Try.underlying60 rfl rfl sz29_Desk (by decide) rfl) ?_
                refine VL.q (.inr ⟨_, _, _, rfl, rfl, rfl⟩) rfl (by decide) (yq_load rfl fb29_Desk rfl (by first | exact Sees.root (by assumption) | exact Sees.own (by repeat (first | exact List.mem_cons_self | exact List.mem_append_left _ (by assumption) | apply List.mem_cons_of_mem | apply List.mem_append_right)) | exact Sees.root (hR _ (by omega)) | exact Sees.own (RowsIn.mem (by repeat (first | exact RowsIn.here | exact RowsIn.last | apply RowsIn.there | apply RowsIn.thereS)) _ (by omega)) | exact Sees.own (WRowsIn.mem (by repeat (first | exact WRowsIn.here | exact WRowsIn.last | apply WRowsIn.there | apply WRowsIn.thereS)) _ (by omega))) (by first | rfl | assumption)) ?_
                refine VL.r (.inr ⟨_, _, _, rfl, rfl, rfl⟩) rfl (by decide) (yr_move rfl rfl) ?_
                refine VL.r (.inr ⟨_, _, _, rfl, rfl, rfl⟩) rfl (by decide) (yr_move rfl rfl) ?_
                refine VL.r (.inr ⟨_, _, _, rfl, rfl, rfl⟩) rfl (by decide) (yr_mulN i xs.length rfl rfl rfl (by omega) (by omega) (Nat.le_trans (Nat.mul_le_mul (show _ ≤ 6 by omega) (show xs.length ≤ 6 by omega)) (by decide))) ?_
                refine VL.r (.inr ⟨_, _, _, rfl, rfl, rfl⟩) rfl (by decide) (yr_move rfl rfl) ?_
                refine VL.r (.inr ⟨_, _, _, rfl, rfl, rfl⟩) rfl (by decide) (yr_int rfl rfl rfl (.inl ⟨rfl, wrap_in (by first | omega | (have h9 := sq_lt (n := xs.length) (i := i) (j := i) (by omega) (by omega); omega) | (have h9 := sq_lt (n := xs.length) (i := i) (j := j) (by omega) (by omega); omega) | (have h9 := sq_lt (n := xs.length) (i := j) (j := i) (by omega) (by omega); omega))⟩)) ?_
                refine VL.q (.inr ⟨_, _, _, rfl, rfl, rfl⟩) rfl (by decide) (yq_idx (k := ((i * xs.length) + i)) rfl Try.underlying29 sz22_Desk rfl rfl (by first | exact Sees.root (by assumption) | exact Sees.own (by repeat (first | exact List.mem_cons_self | exact List.mem_append_left _ (by assumption) | apply List.mem_cons_of_mem | apply List.mem_append_right)) | exact Sees.root (hR _ (by omega)) | exact Sees.own (RowsIn.mem (by repeat (first | exact RowsIn.here | exact RowsIn.last | apply RowsIn.there | apply RowsIn.thereS)) _ (by omega)) | exact Sees.own (WRowsIn.mem (by repeat (first | exact WRowsIn.here | exact WRowsIn.last | apply WRowsIn.there | apply WRowsIn.thereS)) _ (by omega))) (by first | rfl | omega | (push_cast; rfl) | (push_cast; omega) | exact tmod_nat _ _) (by exact fl_length _) (by first | omega | (have h9 := sq_lt (n := xs.length) (i := i) (j := i) (by omega) (by omega); omega) | (have h9 := sq_lt (n := xs.length) (i := i) (j := j) (by omega) (by omega); omega) | (have h9 := sq_lt (n := xs.length) (i := j) (j := i) (by omega) (by omega); omega))) ?_
                refine VL.q (.inr ⟨_, _, _, rfl, rfl, rfl⟩) rfl (by decide) (yq_loadF rfl fb22_Desk rfl (by first | exact Sees.root (by assumption) | exact Sees.own (by repeat (first | exact List.mem_cons_self | exact List.mem_append_left _ (by assumption) | apply List.mem_cons_of_mem | apply List.mem_append_right)) | exact Sees.root (hR _ (by omega)) | exact Sees.own (RowsIn.mem (by repeat (first | exact RowsIn.here | exact RowsIn.last | apply RowsIn.there | apply RowsIn.thereS)) _ (by omega)) | exact Sees.own (WRowsIn.mem (by repeat (first | exact WRowsIn.here | exact WRowsIn.last | apply WRowsIn.there | apply WRowsIn.thereS)) _ (by omega))) (by first | omega | (have h9 := sq_lt (n := xs.length) (i := i) (j := i) (by omega) (by omega); omega) | (have h9 := sq_lt (n := xs.length) (i := i) (j := j) (by omega) (by omega); omega) | (have h9 := sq_lt (n := xs.length) (i := j) (j := i) (by omega) (by omega); omega))) ?_
                refine VL.r (.inr ⟨_, _, _, rfl, rfl, rfl⟩) rfl (by decide) (yr_fcmp (b := 0) rfl (.inr (.inr (.inr (.inr (.inl rfl))))) rfl rfl) ?_
                refine VL.r (.inr ⟨_, _, _, rfl, rfl, rfl⟩) rfl (by decide) (yr_not rfl rfl) ?_
                refine VL.r (.inl rfl) rfl (by decide) (yr_pick_f rfl rfl rfl) ?_
                refine VL.nil ?_
                refine VE.then_wp ?_
                refine V.cond rfl (fun h13 => ?_) (fun h13 => ?_)
                · skip
                  replace h13 := bnot_t h13
                  refine V.seq ?_
                  refine V.region ?_
                  refine VL.r (.inl rfl) rfl (by decide) (yr_assign (u := .bool false) rfl rfl) ?_
                  refine VL.nil ?_
                  refine VE.then_wp ?_
                  refine V.ret ?_
                  refine VE.then_ret ?_
                  refine VE.block_ret ?_
                  refine VE.then_ret ?_
                  refine VE.then_ret ?_
                  refine VE.block_ret ?_
                  refine VE.then_ret ?_
                  refine ret1 rfl rfl (fun w1 hw => ?_)
                  first
                    | (obtain rfl : i = xs.length := by omega
                       exact ⟨congrArg Value.bool (circ_yes ⟨⟨by omega, by omega, by omega, by omega⟩, (all_getD.2 fun k hk => (hI k hk).1), (all_getD.2 fun k hk => (hI k (by omega)).2.1), (circ_fin (by omega) fun k j hk hj => ((hI k hk).2.2.2 j hj).1), (fun k hk => ⟨(hI k hk).2.2.1, fun j hj => ((hI k hk).2.2.2 j (by omega)).2⟩)⟩), hw.below⟩)
                    | (refine ⟨congrArg Value.bool (circ_no fun hc => ?_), hw.below⟩
                       obtain ⟨⟨v1, v2, v3, v4⟩, v5, v6, v7, v8⟩ := hc
                       first
                         | omega
                         | (have h9 := getD_all (p := least) v5 (i := i) (by omega); simp_all; done)
                         | (have h9 := getD_all (p := least) v6 (i := i) (by omega); simp_all; done)
                         | (have h9 := (v8 i (by omega)).1; unfold coil at h9; simp_all; done)
                         | (have h8 := sq_lt (n := xs.length) (i := i) (j := j) (by omega) (by omega)
                            have h9 := getD_all (p := fin) v7 (i := i * xs.length + j) (by omega)
                            simp_all; done)
                         | (have h8 := circ_sym v7 v4 v8 (i := i) (j := j) (by omega) (by omega)
                            unfold coil at h8
                            simp_all; done))
                · skip
                  replace h13 := bnot_f h13
                  refine V.skip ?_
                  refine VE.then_wp ?_
                  refine V.seq ?_
                  refine V.region ?_
                  refine VL.r (.inl rfl) rfl (by decide) (yr_assign (u := .int .i64 0) rfl rfl) ?_
                  refine VL.nil ?_
                  refine VE.then_wp ?_
                  refine V.block ?_
                  refine V.loops (G := Nat) [(0, _), (3, _), (4, _)] (fun (j : Nat) => j ≤ xs.length ∧ ∀ k, k < j → fin (coil zs xs.length i k) = true ∧ fcmp .neq .f32 (coil zs xs.length i k) (coil zs xs.length k i) = false) (fun (j : Nat) => [(5, .int .i64 (j : Int))]) (fun (j : Nat) => xs.length - j) 0 (.cons rfl (.cons rfl (.cons rfl .nil))) (.cons rfl .nil) ?_ ?_
                  · exact (by exact ⟨by omega, fun j h => by omega⟩)
                  rintro j ⟨hj, hJ⟩
                  show V _ _ _ _ ([(5, .int .i64 (j : Int))] ++ [(0, _), (3, _), (4, _)]) _ _
                  have hjn : j * xs.length ≤ 36 := Nat.mul_le_mul (show j ≤ 6 by omega) (show xs.length ≤ 6 by omega)
                  refine V.seq ?_
                  refine V.seq ?_
                  refine V.region ?_
                  refine VL.r (.inl rfl) rfl (by decide) (yr_move rfl rfl) ?_
                  refine VL.r (.inl rfl) rfl (by decide) (yr_move rfl rfl) ?_
                  refine VL.r (.inl rfl) rfl (by decide) (yr_icmp rfl (.inr (.inr (.inl rfl))) rfl rfl) ?_
                  refine VL.nil ?_
                  refine VE.then_wp ?_
                  refine V.cond rfl (fun h14 => ?_) (fun h14 => ?_)
                  · skip
                    replace h14 := ic_lss h14
                    refine V.skip ?_
                    refine VE.then_wp ?_
                    refine V.seq ?_
                    refine V.block ?_
                    refine V.seq ?_
                    refine V.draw [(0, 0), (1, 0), (2, 0), (3, 0), (4, 0), (5, 0), (6, 0), (7, 0), (8, 0), (9, 0), (10, 0), (11, 0), (12, 0), (13, 0), (14, 0), (15, 0), (16, 0), (17, 0), (18, 0), (19, 0), (20, 0), (21, 0), (22, 0), (23, 0), (24, 0), (25, 0), (26, 0), (27, 0), (28, 0), (29, 0), (30, 0), (31, 0), (32, 0), (33, 0), (34, 0), (35, 0), (36, 0), (37, 0)] mixed_Desk (by kernel_rfl) (by intro j o hj; simp at hj) ?_
                    refine SW.r rfl (.inl rfl) rfl (by decide) (yr_move rfl rfl) ?_
                    refine SW.r rfl (.inl rfl) rfl (by decide) (yr_nilCheck rfl rfl) ?_
                    refine SW.r rfl (.inl rfl) rfl (by decide) (yr_fieldAddr rfl Try.underlying60 rfl rfl sz29_Desk (by decide) rfl) ?_
                    refine SW.q rfl (.inl rfl) rfl (by decide) (yq_load rfl fb29_Desk rfl (by first | exact Sees.root (by assumption) | exact Sees.own (by repeat (first | exact List.mem_cons_self | exact List.mem_append_left _ (by assumption) | apply List.mem_cons_of_mem | apply List.mem_append_right)) | exact Sees.root (hR _ (by omega)) | exact Sees.own (RowsIn.mem (by repeat (first | exact RowsIn.here | exact RowsIn.last | apply RowsIn.there | apply RowsIn.thereS)) _ (by omega)) | exact Sees.own (WRowsIn.mem (by repeat (first | exact WRowsIn.here | exact WRowsIn.last | apply WRowsIn.there | apply WRowsIn.thereS)) _ (by omega))) (by first | rfl | assumption)) ?_
                    refine SW.r rfl (.inl rfl) rfl (by decide) (yr_move rfl rfl) ?_
                    refine SW.r rfl (.inl rfl) rfl (by decide) (yr_move rfl rfl) ?_
                    refine SW.r rfl (.inl rfl) rfl (by decide) (yr_mulN i xs.length rfl rfl rfl (by omega) (by omega) (Nat.le_trans (Nat.mul_le_mul (show _ ≤ 6 by omega) (show xs.length ≤ 6 by omega)) (by decide))) ?_
                    refine SW.r rfl (.inl rfl) rfl (by decide) (yr_move rfl rfl) ?_
                    refine SW.r rfl (.inl rfl) rfl (by decide) (yr_int rfl rfl rfl (.inl ⟨rfl, wrap_in (by first | omega | (have h9 := sq_lt (n := xs.length) (i := i) (j := i) (by omega) (by omega); omega) | (have h9 := sq_lt (n := xs.length) (i := i) (j := j) (by omega) (by omega); omega) | (have h9 := sq_lt (n := xs.length) (i := j) (j := i) (by omega) (by omega); omega))⟩)) ?_
                    refine SW.q rfl (.inl rfl) rfl (by decide) (yq_idx (k := ((i * xs.length) + j)) rfl Try.underlying29 sz22_Desk rfl rfl (by first | exact Sees.root (by assumption) | exact Sees.own (by repeat (first | exact List.mem_cons_self | exact List.mem_append_left _ (by assumption) | apply List.mem_cons_of_mem | apply List.mem_append_right)) | exact Sees.root (hR _ (by omega)) | exact Sees.own (RowsIn.mem (by repeat (first | exact RowsIn.here | exact RowsIn.last | apply RowsIn.there | apply RowsIn.thereS)) _ (by omega)) | exact Sees.own (WRowsIn.mem (by repeat (first | exact WRowsIn.here | exact WRowsIn.last | apply WRowsIn.there | apply WRowsIn.thereS)) _ (by omega))) (by first | rfl | omega | (push_cast; rfl) | (push_cast; omega) | exact tmod_nat _ _) (by exact fl_length _) (by first | omega | (have h9 := sq_lt (n := xs.length) (i := i) (j := i) (by omega) (by omega); omega) | (have h9 := sq_lt (n := xs.length) (i := i) (j := j) (by omega) (by omega); omega) | (have h9 := sq_lt (n := xs.length) (i := j) (j := i) (by omega) (by omega); omega))) ?_
                    refine SW.q rfl (.inl rfl) rfl (by decide) (yq_loadF rfl fb22_Desk rfl (by first | exact Sees.root (by assumption) | exact Sees.own (by repeat (first | exact List.mem_cons_self | exact List.mem_append_left _ (by assumption) | apply List.mem_cons_of_mem | apply List.mem_append_right)) | exact Sees.root (hR _ (by omega)) | exact Sees.own (RowsIn.mem (by repeat (first | exact RowsIn.here | exact RowsIn.last | apply RowsIn.there | apply RowsIn.thereS)) _ (by omega)) | exact Sees.own (WRowsIn.mem (by repeat (first | exact WRowsIn.here | exact WRowsIn.last | apply WRowsIn.there | apply WRowsIn.thereS)) _ (by omega))) (by first | omega | (have h9 := sq_lt (n := xs.length) (i := i) (j := i) (by omega) (by omega); omega) | (have h9 := sq_lt (n := xs.length) (i := i) (j := j) (by omega) (by omega); omega) | (have h9 := sq_lt (n := xs.length) (i := j) (j := i) (by omega) (by omega); omega))) ?_
                    refine SW.q rfl (.inl rfl) rfl (by decide) (yq_callf rfl known64_Desk (.cons rfl .nil) (fun w hw => c_l01Finite _)) ?_
                    refine SW.r rfl (.inl rfl) rfl (by decide) (yr_not rfl rfl) ?_
                    refine SW.r rfl (.inl rfl) rfl (by decide) (yr_move rfl rfl) ?_
                    refine SW.split lax_ve 95 _ rfl (fun h15 => ?_) (fun h15 => ?_)
                    · skip
                      replace h15 := bnot_t h15
                      refine SW.no rfl (by decide) rfl rfl rfl rfl rfl (by decide) ?_
                      refine SW.no rfl (by decide) rfl rfl rfl rfl rfl (by decide) ?_
                      refine SW.no rfl (by decide) rfl rfl rfl rfl rfl (by decide) ?_
                      refine SW.no rfl (by decide) rfl rfl rfl rfl rfl (by decide) ?_
                      refine SW.no rfl (by decide) rfl rfl rfl rfl rfl (by decide) ?_
                      refine SW.no rfl (by decide) rfl rfl rfl rfl rfl (by decide) ?_
                      refine SW.no rfl (by decide) rfl rfl rfl rfl rfl (by decide) ?_
                      refine SW.no rfl (by decide) rfl rfl rfl rfl rfl (by decide) ?_
                      refine SW.no rfl (by decide) rfl rfl rfl rfl rfl (by decide) ?_
                      refine SW.no rfl (by decide) rfl rfl rfl rfl rfl (by decide) ?_
                      refine SW.no rfl (by decide) rfl rfl rfl rfl rfl (by decide) ?_
                      refine SW.no rfl (by decide) rfl rfl rfl rfl rfl (by decide) ?_
                      refine SW.no rfl (by decide) rfl rfl rfl rfl rfl (by decide) ?_
                      refine SW.no rfl (by decide) rfl rfl rfl rfl rfl (by decide) ?_
                      refine SW.no rfl (by decide) rfl rfl rfl rfl rfl (by decide) ?_
                      refine SW.no rfl (by decide) rfl rfl rfl rfl rfl (by decide) ?_
                      refine SW.no rfl (by decide) rfl rfl rfl rfl rfl (by decide) ?_
                      refine SW.no rfl (by decide) rfl rfl rfl rfl rfl (by decide) ?_
                      refine SW.no rfl (by decide) rfl rfl rfl rfl rfl (by decide) ?_
                      refine SW.no rfl (by decide) rfl rfl rfl rfl rfl (by decide) ?_
                      refine SW.no rfl (by decide) rfl rfl rfl rfl rfl (by decide) ?_
                      refine SW.no rfl (by decide) rfl rfl rfl rfl rfl (by decide) ?_
                      refine SW.no rfl (by decide) rfl rfl rfl rfl rfl (by decide) ?_
                      refine SW.r rfl (.inl rfl) rfl (by decide) (yr_pick_t (u := .bool true) rfl rfl rfl) ?_
                      refine SW.done ?_
                      refine VE.then_wp ?_
                      refine V.condT rfl ?_
                      refine V.seq ?_
                      refine V.region ?_
                      refine VL.r (.inl rfl) rfl (by decide) (yr_assign (u := .bool false) rfl rfl) ?_
                      refine VL.nil ?_
                      refine VE.then_wp ?_
                      refine V.ret ?_
                      refine VE.block_ret ?_
                      refine VE.then_ret ?_
                      refine VE.then_ret ?_
                      refine VE.block_ret ?_
                      refine VE.block_ret ?_
                      refine VE.then_ret ?_
                      refine VE.then_ret ?_
                      refine VE.block_ret ?_
                      refine VE.then_ret ?_
                      refine ret1 rfl rfl (fun w1 hw => ?_)
                      first
                        | (obtain rfl : i = xs.length := by omega
                           exact ⟨congrArg Value.bool (circ_yes ⟨⟨by omega, by omega, by omega, by omega⟩, (all_getD.2 fun k hk => (hI k hk).1), (all_getD.2 fun k hk => (hI k (by omega)).2.1), (circ_fin (by omega) fun k j hk hj => ((hI k hk).2.2.2 j hj).1), (fun k hk => ⟨(hI k hk).2.2.1, fun j hj => ((hI k hk).2.2.2 j (by omega)).2⟩)⟩), hw.below⟩)
                        | (refine ⟨congrArg Value.bool (circ_no fun hc => ?_), hw.below⟩
                           obtain ⟨⟨v1, v2, v3, v4⟩, v5, v6, v7, v8⟩ := hc
                           first
                             | omega
                             | (have h9 := getD_all (p := least) v5 (i := i) (by omega); simp_all; done)
                             | (have h9 := getD_all (p := least) v6 (i := i) (by omega); simp_all; done)
                             | (have h9 := (v8 i (by omega)).1; unfold coil at h9; simp_all; done)
                             | (have h8 := sq_lt (n := xs.length) (i := i) (j := j) (by omega) (by omega)
                                have h9 := getD_all (p := fin) v7 (i := i * xs.length + j) (by omega)
                                simp_all; done)
                             | (have h8 := circ_sym v7 v4 v8 (i := i) (j := j) (by omega) (by omega)
                                unfold coil at h8
                                simp_all; done))
                    · skip
                      replace h15 := bnot_f h15
                      refine SW.r rfl (.inr ⟨_, _, _, rfl, rfl, rfl⟩) rfl (by decide) (yr_move rfl rfl) ?_
                      refine SW.r rfl (.inr ⟨_, _, _, rfl, rfl, rfl⟩) rfl (by decide) (yr_nilCheck rfl rfl) ?_
                      refine SW.r rfl (.inr ⟨_, _, _, rfl, rfl, rfl⟩) rfl (by decide) (yr_fieldAddr rfl Try.underlying60 rfl rfl sz29_Desk (by decide) rfl) ?_
                      refine SW.q rfl (.inr ⟨_, _, _, rfl, rfl, rfl⟩) rfl (by decide) (yq_load rfl fb29_Desk rfl (by first | exact Sees.root (by assumption) | exact Sees.own (by repeat (first | exact List.mem_cons_self | exact List.mem_append_left _ (by assumption) | apply List.mem_cons_of_mem | apply List.mem_append_right)) | exact Sees.root (hR _ (by omega)) | exact Sees.own (RowsIn.mem (by repeat (first | exact RowsIn.here | exact RowsIn.last | apply RowsIn.there | apply RowsIn.thereS)) _ (by omega)) | exact Sees.own (WRowsIn.mem (by repeat (first | exact WRowsIn.here | exact WRowsIn.last | apply WRowsIn.there | apply WRowsIn.thereS)) _ (by omega))) (by first | rfl | assumption)) ?_
                      refine SW.r rfl (.inr ⟨_, _, _, rfl, rfl, rfl⟩) rfl (by decide) (yr_move rfl rfl) ?_
                      refine SW.r rfl (.inr ⟨_, _, _, rfl, rfl, rfl⟩) rfl (by decide) (yr_move rfl rfl) ?_
                      refine SW.r rfl (.inr ⟨_, _, _, rfl, rfl, rfl⟩) rfl (by decide) (yr_mulN i xs.length rfl rfl rfl (by omega) (by omega) (Nat.le_trans (Nat.mul_le_mul (show _ ≤ 6 by omega) (show xs.length ≤ 6 by omega)) (by decide))) ?_
                      refine SW.r rfl (.inr ⟨_, _, _, rfl, rfl, rfl⟩) rfl (by decide) (yr_move rfl rfl) ?_
                      refine SW.r rfl (.inr ⟨_, _, _, rfl, rfl, rfl⟩) rfl (by decide) (yr_int rfl rfl rfl (.inl ⟨rfl, wrap_in (by first | omega | (have h9 := sq_lt (n := xs.length) (i := i) (j := i) (by omega) (by omega); omega) | (have h9 := sq_lt (n := xs.length) (i := i) (j := j) (by omega) (by omega); omega) | (have h9 := sq_lt (n := xs.length) (i := j) (j := i) (by omega) (by omega); omega))⟩)) ?_
                      refine SW.q rfl (.inr ⟨_, _, _, rfl, rfl, rfl⟩) rfl (by decide) (yq_idx (k := ((i * xs.length) + j)) rfl Try.underlying29 sz22_Desk rfl rfl (by first | exact Sees.root (by assumption) | exact Sees.own (by repeat (first | exact List.mem_cons_self | exact List.mem_append_left _ (by assumption) | apply List.mem_cons_of_mem | apply List.mem_append_right)) | exact Sees.root (hR _ (by omega)) | exact Sees.own (RowsIn.mem (by repeat (first | exact RowsIn.here | exact RowsIn.last | apply RowsIn.there | apply RowsIn.thereS)) _ (by omega)) | exact Sees.own (WRowsIn.mem (by repeat (first | exact WRowsIn.here | exact WRowsIn.last | apply WRowsIn.there | apply WRowsIn.thereS)) _ (by omega))) (by first | rfl | omega | (push_cast; rfl) | (push_cast; omega) | exact tmod_nat _ _) (by exact fl_length _) (by first | omega | (have h9 := sq_lt (n := xs.length) (i := i) (j := i) (by omega) (by omega); omega) | (have h9 := sq_lt (n := xs.length) (i := i) (j := j) (by omega) (by omega); omega) | (have h9 := sq_lt (n := xs.length) (i := j) (j := i) (by omega) (by omega); omega))) ?_
                      refine SW.q rfl (.inr ⟨_, _, _, rfl, rfl, rfl⟩) rfl (by decide) (yq_loadF rfl fb22_Desk rfl (by first | exact Sees.root (by assumption) | exact Sees.own (by repeat (first | exact List.mem_cons_self | exact List.mem_append_left _ (by assumption) | apply List.mem_cons_of_mem | apply List.mem_append_right)) | exact Sees.root (hR _ (by omega)) | exact Sees.own (RowsIn.mem (by repeat (first | exact RowsIn.here | exact RowsIn.last | apply RowsIn.there | apply RowsIn.thereS)) _ (by omega)) | exact Sees.own (WRowsIn.mem (by repeat (first | exact WRowsIn.here | exact WRowsIn.last | apply WRowsIn.there | apply WRowsIn.thereS)) _ (by omega))) (by first | omega | (have h9 := sq_lt (n := xs.length) (i := i) (j := i) (by omega) (by omega); omega) | (have h9 := sq_lt (n := xs.length) (i := i) (j := j) (by omega) (by omega); omega) | (have h9 := sq_lt (n := xs.length) (i := j) (j := i) (by omega) (by omega); omega))) ?_
                      refine SW.r rfl (.inr ⟨_, _, _, rfl, rfl, rfl⟩) rfl (by decide) (yr_move rfl rfl) ?_
                      refine SW.r rfl (.inr ⟨_, _, _, rfl, rfl, rfl⟩) rfl (by decide) (yr_nilCheck rfl rfl) ?_
                      refine SW.r rfl (.inr ⟨_, _, _, rfl, rfl, rfl⟩) rfl (by decide) (yr_fieldAddr rfl Try.underlying60 rfl rfl sz29_Desk (by decide) rfl) ?_
                      refine SW.q rfl (.inr ⟨_, _, _, rfl, rfl, rfl⟩) rfl (by decide) (yq_load rfl fb29_Desk rfl (by first | exact Sees.root (by assumption) | exact Sees.own (by repeat (first | exact List.mem_cons_self | exact List.mem_append_left _ (by assumption) | apply List.mem_cons_of_mem | apply List.mem_append_right)) | exact Sees.root (hR _ (by omega)) | exact Sees.own (RowsIn.mem (by repeat (first | exact RowsIn.here | exact RowsIn.last | apply RowsIn.there | apply RowsIn.thereS)) _ (by omega)) | exact Sees.own (WRowsIn.mem (by repeat (first | exact WRowsIn.here | exact WRowsIn.last | apply WRowsIn.there | apply WRowsIn.thereS)) _ (by omega))) (by first | rfl | assumption)) ?_
                      refine SW.r rfl (.inr ⟨_, _, _, rfl, rfl, rfl⟩) rfl (by decide) (yr_move rfl rfl) ?_
                      refine SW.r rfl (.inr ⟨_, _, _, rfl, rfl, rfl⟩) rfl (by decide) (yr_move rfl rfl) ?_
                      refine SW.r rfl (.inr ⟨_, _, _, rfl, rfl, rfl⟩) rfl (by decide) (yr_mulN j xs.length rfl rfl rfl (by omega) (by omega) (Nat.le_trans (Nat.mul_le_mul (show _ ≤ 6 by omega) (show xs.length ≤ 6 by omega)) (by decide))) ?_
                      refine SW.r rfl (.inr ⟨_, _, _, rfl, rfl, rfl⟩) rfl (by decide) (yr_move rfl rfl) ?_
                      refine SW.r rfl (.inr ⟨_, _, _, rfl, rfl, rfl⟩) rfl (by decide) (yr_int rfl rfl rfl (.inl ⟨rfl, wrap_in (by first | omega | (have h9 := sq_lt (n := xs.length) (i := i) (j := i) (by omega) (by omega); omega) | (have h9 := sq_lt (n := xs.length) (i := i) (j := j) (by omega) (by omega); omega) | (have h9 := sq_lt (n := xs.length) (i := j) (j := i) (by omega) (by omega); omega))⟩)) ?_
                      refine SW.q rfl (.inr ⟨_, _, _, rfl, rfl, rfl⟩) rfl (by decide) (yq_idx (k := ((j * xs.length) + i)) rfl Try.underlying29 sz22_Desk rfl rfl (by first | exact Sees.root (by assumption) | exact Sees.own (by repeat (first | exact List.mem_cons_self | exact List.mem_append_left _ (by assumption) | apply List.mem_cons_of_mem | apply List.mem_append_right)) | exact Sees.root (hR _ (by omega)) | exact Sees.own (RowsIn.mem (by repeat (first | exact RowsIn.here | exact RowsIn.last | apply RowsIn.there | apply RowsIn.thereS)) _ (by omega)) | exact Sees.own (WRowsIn.mem (by repeat (first | exact WRowsIn.here | exact WRowsIn.last | apply WRowsIn.there | apply WRowsIn.thereS)) _ (by omega))) (by first | rfl | omega | (push_cast; rfl) | (push_cast; omega) | exact tmod_nat _ _) (by exact fl_length _) (by first | omega | (have h9 := sq_lt (n := xs.length) (i := i) (j := i) (by omega) (by omega); omega) | (have h9 := sq_lt (n := xs.length) (i := i) (j := j) (by omega) (by omega); omega) | (have h9 := sq_lt (n := xs.length) (i := j) (j := i) (by omega) (by omega); omega))) ?_
                      refine SW.q rfl (.inr ⟨_, _, _, rfl, rfl, rfl⟩) rfl (by decide) (yq_loadF rfl fb22_Desk rfl (by first | exact Sees.root (by assumption) | exact Sees.own (by repeat (first | exact List.mem_cons_self | exact List.mem_append_left _ (by assumption) | apply List.mem_cons_of_mem | apply List.mem_append_right)) | exact Sees.root (hR _ (by omega)) | exact Sees.own (RowsIn.mem (by repeat (first | exact RowsIn.here | exact RowsIn.last | apply RowsIn.there | apply RowsIn.thereS)) _ (by omega)) | exact Sees.own (WRowsIn.mem (by repeat (first | exact WRowsIn.here | exact WRowsIn.last | apply WRowsIn.there | apply WRowsIn.thereS)) _ (by omega))) (by first | omega | (have h9 := sq_lt (n := xs.length) (i := i) (j := i) (by omega) (by omega); omega) | (have h9 := sq_lt (n := xs.length) (i := i) (j := j) (by omega) (by omega); omega) | (have h9 := sq_lt (n := xs.length) (i := j) (j := i) (by omega) (by omega); omega))) ?_
                      refine SW.r rfl (.inr ⟨_, _, _, rfl, rfl, rfl⟩) rfl (by decide) (yr_fcmp rfl (.inr (.inl rfl)) rfl rfl) ?_
                      refine SW.r rfl (.inl rfl) rfl (by decide) (yr_pick_f rfl rfl rfl) ?_
                      refine SW.done ?_
                      refine VE.then_wp ?_
                      refine V.cond rfl (fun h17 => ?_) (fun h17 => ?_)
                      · skip
                        refine V.seq ?_
                        refine V.region ?_
                        refine VL.r (.inl rfl) rfl (by decide) (yr_assign (u := .bool false) rfl rfl) ?_
                        refine VL.nil ?_
                        refine VE.then_wp ?_
                        refine V.ret ?_
                        refine VE.block_ret ?_
                        refine VE.then_ret ?_
                        refine VE.then_ret ?_
                        refine VE.block_ret ?_
                        refine VE.block_ret ?_
                        refine VE.then_ret ?_
                        refine VE.then_ret ?_
                        refine VE.block_ret ?_
                        refine VE.then_ret ?_
                        refine ret1 rfl rfl (fun w1 hw => ?_)
                        first
                          | (obtain rfl : i = xs.length := by omega
                             exact ⟨congrArg Value.bool (circ_yes ⟨⟨by omega, by omega, by omega, by omega⟩, (all_getD.2 fun k hk => (hI k hk).1), (all_getD.2 fun k hk => (hI k (by omega)).2.1), (circ_fin (by omega) fun k j hk hj => ((hI k hk).2.2.2 j hj).1), (fun k hk => ⟨(hI k hk).2.2.1, fun j hj => ((hI k hk).2.2.2 j (by omega)).2⟩)⟩), hw.below⟩)
                          | (refine ⟨congrArg Value.bool (circ_no fun hc => ?_), hw.below⟩
                             obtain ⟨⟨v1, v2, v3, v4⟩, v5, v6, v7, v8⟩ := hc
                             first
                               | omega
                               | (have h9 := getD_all (p := least) v5 (i := i) (by omega); simp_all; done)
                               | (have h9 := getD_all (p := least) v6 (i := i) (by omega); simp_all; done)
                               | (have h9 := (v8 i (by omega)).1; unfold coil at h9; simp_all; done)
                               | (have h8 := sq_lt (n := xs.length) (i := i) (j := j) (by omega) (by omega)
                                  have h9 := getD_all (p := fin) v7 (i := i * xs.length + j) (by omega)
                                  simp_all; done)
                               | (have h8 := circ_sym v7 v4 v8 (i := i) (j := j) (by omega) (by omega)
                                  unfold coil at h8
                                  simp_all; done))
                      · skip
                        refine V.skip ?_
                        refine VE.block_normal ?_
                        refine VE.then_wp ?_
                        refine V.region ?_
                        refine VL.r (.inl rfl) rfl (by decide) (yr_move rfl rfl) ?_
                        refine VL.r (.inl rfl) rfl (by decide) (yr_int rfl rfl rfl (.inl ⟨rfl, wrap_in (by first | omega | (have h9 := sq_lt (n := xs.length) (i := i) (j := i) (by omega) (by omega); omega) | (have h9 := sq_lt (n := xs.length) (i := i) (j := j) (by omega) (by omega); omega) | (have h9 := sq_lt (n := xs.length) (i := j) (j := i) (by omega) (by omega); omega))⟩)) ?_
                        refine VL.r (.inl rfl) rfl (by decide) (yr_assign rfl rfl) ?_
                        refine VL.nil ?_
                        refine VE.round (j + 1) ?_ ?_ ?_ ?_ ?_
                        · exact (.cons rfl .nil)
                        · exact (.cons rfl (.cons rfl (.cons rfl .nil)))
                        · exact (fun w hw => hw)
                        · exact ⟨by omega, fun k hk => by rcases Nat.lt_or_ge k j with h | h; exact hJ k h; obtain rfl : k = j := (by omega); exact ⟨by assumption, by assumption⟩⟩
                        · (try dsimp only); omega
                  · skip
                    replace h14 := ic_lss' h14
                    refine V.exit ?_
                    refine VE.then_exit ?_
                    refine VE.then_exit ?_
                    refine VE.block_here ?_
                    refine VE.block_normal ?_
                    refine VE.then_wp ?_
                    refine V.region ?_
                    refine VL.r (.inl rfl) rfl (by decide) (yr_move rfl rfl) ?_
                    refine VL.r (.inl rfl) rfl (by decide) (yr_int rfl rfl rfl (.inl ⟨rfl, wrap_in (by first | omega | (have h9 := sq_lt (n := xs.length) (i := i) (j := i) (by omega) (by omega); omega) | (have h9 := sq_lt (n := xs.length) (i := i) (j := j) (by omega) (by omega); omega) | (have h9 := sq_lt (n := xs.length) (i := j) (j := i) (by omega) (by omega); omega))⟩)) ?_
                    refine VL.r (.inl rfl) rfl (by decide) (yr_assign rfl rfl) ?_
                    refine VL.nil ?_
                    refine VE.round (i + 1) ?_ ?_ ?_ ?_ ?_
                    · exact (.cons rfl .nil)
                    · exact (.cons rfl (.cons rfl .nil))
                    · exact (fun w hw => hw)
                    · obtain rfl : j = xs.length := by omega
                      exact ⟨by omega, fun k hk => by rcases Nat.lt_or_ge k i with h | h; exact hI k h; obtain rfl : k = i := (by omega); exact ⟨by assumption, by assumption, by assumption, hJ⟩⟩
                    · (try dsimp only); omega
          · skip
            replace h8 := ic_lss' h8
            refine V.exit ?_
            refine VE.then_exit ?_
            refine VE.then_exit ?_
            refine VE.block_here ?_
            refine VE.then_wp ?_
            refine V.seq ?_
            refine V.region ?_
            refine VL.r (.inl rfl) rfl (by decide) (yr_assign (u := .bool true) rfl rfl) ?_
            refine VL.nil ?_
            refine VE.then_wp ?_
            refine V.ret ?_
            refine ret1 rfl rfl (fun w1 hw => ?_)
            first
              | (obtain rfl : i = xs.length := by omega
                 exact ⟨congrArg Value.bool (circ_yes ⟨⟨by omega, by omega, by omega, by omega⟩, (all_getD.2 fun k hk => (hI k hk).1), (all_getD.2 fun k hk => (hI k (by omega)).2.1), (circ_fin (by omega) fun k j hk hj => ((hI k hk).2.2.2 j hj).1), (fun k hk => ⟨(hI k hk).2.2.1, fun j hj => ((hI k hk).2.2.2 j (by omega)).2⟩)⟩), hw.below⟩)
              | (refine ⟨congrArg Value.bool (circ_no fun hc => ?_), hw.below⟩
                 obtain ⟨⟨v1, v2, v3, v4⟩, v5, v6, v7, v8⟩ := hc
                 first
                   | omega
                   | (have h9 := getD_all (p := least) v5 (i := i) (by omega); simp_all; done)
                   | (have h9 := getD_all (p := least) v6 (i := i) (by omega); simp_all; done)
                   | (have h9 := (v8 i (by omega)).1; unfold coil at h9; simp_all; done)
                   | (have h8 := sq_lt (n := xs.length) (i := i) (j := j) (by omega) (by omega)
                      have h9 := getD_all (p := fin) v7 (i := i * xs.length + j) (by omega)
                      simp_all; done)
                   | (have h8 := circ_sym v7 v4 v8 (i := i) (j := j) (by omega) (by omega)
                      unfold coil at h8
                      simp_all; done))

theorem c_areP {w : World} {b : Option Addr} {m d : Nat} : Pure Try.prog 113 [.slice b m d] w (.bool (decide (m ≤ 24))) := by
  refine Pure.enter Try.func113 rfl Try.ntmps113 (Nat.le_of_ble_eq_true rfl) ?_
  refine V.seq ?_
  refine V.region ?_
  refine VL.r (.inl rfl) rfl (by decide) (yr_assign (u := .bool false) rfl rfl) ?_
  refine VL.nil ?_
  refine VE.then_wp ?_
  refine V.seq ?_
  refine V.region ?_
  refine VL.r (.inl rfl) rfl (by decide) (yr_move rfl rfl) ?_
  refine VL.r (.inl rfl) rfl (by decide) (yr_len rfl Try.underlying58 rfl) ?_
  refine VL.r (.inl rfl) rfl (by decide) (yr_icmp rfl (.inr (.inr (.inr (.inl rfl)))) rfl rfl) ?_
  refine VL.r (.inl rfl) rfl (by decide) (yr_assign rfl rfl) ?_
  refine VL.nil ?_
  refine VE.then_wp ?_
  refine V.ret ?_
  refine ret1 rfl rfl (fun w1 hw => ?_)
  exact ⟨congrArg Value.bool (by show decide ((m : Int) ≤ 24) = decide (m ≤ 24); rw [decide_eq_decide]; omega), hw.below⟩

theorem c_l05P {w : World} {b : Option Addr} {m d : Nat} : Pure Try.prog 170 [.slice b m d] w (.bool (decide (m ≤ 24))) := by
  refine Pure.enter Try.func170 rfl Try.ntmps170 (Nat.le_of_ble_eq_true rfl) ?_
  refine V.seq ?_
  refine V.region ?_
  refine VL.r (.inl rfl) rfl (by decide) (yr_assign (u := .bool false) rfl rfl) ?_
  refine VL.nil ?_
  refine VE.then_wp ?_
  refine V.seq ?_
  refine V.region ?_
  refine VL.r (.inl rfl) rfl (by decide) (yr_move rfl rfl) ?_
  refine VL.r (.inl rfl) rfl (by decide) (yr_len rfl Try.underlying58 rfl) ?_
  refine VL.r (.inl rfl) rfl (by decide) (yr_icmp rfl (.inr (.inr (.inr (.inl rfl)))) rfl rfl) ?_
  refine VL.r (.inl rfl) rfl (by decide) (yr_assign rfl rfl) ?_
  refine VL.nil ?_
  refine VE.then_wp ?_
  refine V.ret ?_
  refine ret1 rfl rfl (fun w1 hw => ?_)
  exact ⟨congrArg Value.bool (by show decide ((m : Int) ≤ 24) = decide (m ≤ 24); rw [decide_eq_decide]; omega), hw.below⟩

theorem c_cube {w : World} {r : Nat} : Pure Try.prog 221 [.float .f32 r] w (.float .f32 (cube r)) := by
  refine Pure.enter Try.func221 rfl Try.ntmps221 (Nat.le_of_ble_eq_true rfl) ?_
  refine V.seq ?_
  refine V.region ?_
  refine VL.r (.inl rfl) rfl (by decide) (yr_assign (u := .float .f32 0) rfl rfl) ?_
  refine VL.nil ?_
  refine VE.then_wp ?_
  refine V.seq ?_
  refine V.region ?_
  refine VL.r (.inl rfl) rfl (by decide) (yr_move rfl rfl) ?_
  refine VL.r (.inl rfl) rfl (by decide) (yr_move rfl rfl) ?_
  refine VL.r (.inl rfl) rfl (by decide) (yr_float rfl (.inr (.inr (.inl rfl))) rfl rfl) ?_
  refine VL.r (.inl rfl) rfl (by decide) (yr_move rfl rfl) ?_
  refine VL.r (.inl rfl) rfl (by decide) (yr_float rfl (.inr (.inr (.inl rfl))) rfl rfl) ?_
  refine VL.r (.inl rfl) rfl (by decide) (yr_assign rfl rfl) ?_
  refine VL.nil ?_
  refine VE.then_wp ?_
  refine V.ret ?_
  refine ret1 rfl rfl (fun w1 hw => ?_)
  exact ⟨rfl, hw.below⟩

theorem c_l05Cube {w : World} {r : Nat} : Pure Try.prog 231 [.float .f32 r] w (.float .f32 (cube r)) := by
  refine Pure.enter Try.func231 rfl Try.ntmps231 (Nat.le_of_ble_eq_true rfl) ?_
  refine V.seq ?_
  refine V.region ?_
  refine VL.r (.inl rfl) rfl (by decide) (yr_assign (u := .float .f32 0) rfl rfl) ?_
  refine VL.nil ?_
  refine VE.then_wp ?_
  refine V.seq ?_
  refine V.region ?_
  refine VL.r (.inl rfl) rfl (by decide) (yr_move rfl rfl) ?_
  refine VL.r (.inl rfl) rfl (by decide) (yr_move rfl rfl) ?_
  refine VL.r (.inl rfl) rfl (by decide) (yr_float rfl (.inr (.inr (.inl rfl))) rfl rfl) ?_
  refine VL.r (.inl rfl) rfl (by decide) (yr_move rfl rfl) ?_
  refine VL.r (.inl rfl) rfl (by decide) (yr_float rfl (.inr (.inr (.inl rfl))) rfl rfl) ?_
  refine VL.r (.inl rfl) rfl (by decide) (yr_assign rfl rfl) ?_
  refine VL.nil ?_
  refine VE.then_wp ?_
  refine V.ret ?_
  refine ret1 rfl rfl (fun w1 hw => ?_)
  exact ⟨rfl, hw.below⟩

theorem c_poleF {w : World} {p1 p2 p3 s v1 v2 v3 : Nat} : Pure Try.prog 194 [.agg #[.float .f32 p1, .float .f32 p2, .float .f32 p3, .float .f32 s], vv (v1, v2, v3)] w (vv (poleF ((p1, p2, p3), s) (v1, v2, v3))) := by
  refine Pure.enter Try.func194 rfl Try.ntmps194 (Nat.le_of_ble_eq_true rfl) ?_
  refine V.seq ?_
  refine V.region ?_
  refine VL.new1 (.inl rfl) rfl (by decide) (yn_box rfl rfl (.inr ⟨rfl, rfl⟩)) ?_
  intro b2
  refine VL.new1 (.inl rfl) rfl (by decide) (yn_box rfl rfl (.inr ⟨rfl, rfl⟩)) ?_
  intro b3
  refine VL.new1 (.inl rfl) rfl (by decide) (yn_alloc rfl zero32_Desk rfl) ?_
  intro b4
  refine VL.nil ?_
  refine VE.then_wp ?_
  refine V.seq ?_
  refine V.region ?_
  refine VL.q (.inl rfl) rfl (by decide) (yq_loadS rfl Try.underlying32 sz32_Desk rfl (by first | exact Sees.root (by assumption) | exact Sees.own (by repeat (first | exact List.mem_cons_self | exact List.mem_append_left _ (by assumption) | apply List.mem_cons_of_mem | apply List.mem_append_right)) | exact Sees.root (hR _ (by omega)) | exact Sees.own (RowsIn.mem (by repeat (first | exact RowsIn.here | exact RowsIn.last | apply RowsIn.there | apply RowsIn.thereS)) _ (by omega)) | exact Sees.own (WRowsIn.mem (by repeat (first | exact WRowsIn.here | exact WRowsIn.last | apply WRowsIn.there | apply WRowsIn.thereS)) _ (by omega))) rfl rfl rfl) ?_
  refine VL.r (.inl rfl) rfl (by decide) (yr_fieldAddr rfl Try.underlying183 rfl rfl sz32_Desk (by decide) rfl) ?_
  refine VL.q (.inl rfl) rfl (by decide) (yq_loadS rfl Try.underlying32 sz32_Desk rfl (by first | exact Sees.root (by assumption) | exact Sees.own (by repeat (first | exact List.mem_cons_self | exact List.mem_append_left _ (by assumption) | apply List.mem_cons_of_mem | apply List.mem_append_right)) | exact Sees.root (hR _ (by omega)) | exact Sees.own (RowsIn.mem (by repeat (first | exact RowsIn.here | exact RowsIn.last | apply RowsIn.there | apply RowsIn.thereS)) _ (by omega)) | exact Sees.own (WRowsIn.mem (by repeat (first | exact WRowsIn.here | exact WRowsIn.last | apply WRowsIn.there | apply WRowsIn.thereS)) _ (by omega))) rfl rfl rfl) ?_
  refine VL.q (.inl rfl) rfl (by decide) (yq_callf rfl known138_Desk (.cons rfl (.cons rfl .nil)) (fun w hw => c_sub3)) ?_
  refine VL.new1 (.inl rfl) rfl (by decide) (yn_alloc rfl zero32_Desk rfl) ?_
  intro b5
  refine VL.s (.inl rfl) rfl (yc_store rfl sz32_Desk rfl rfl (by repeat (first | exact UpdF.here | apply UpdF.there | apply UpdF.thereS)) (.inr ⟨rfl, rfl⟩) rfl (by first | exact Nat.le_of_ble_eq_true rfl | simp) (by decide) rfl) ?_
  rintro ⟨⟩
  refine VL.nil ?_
  refine VE.then_wp ?_
  refine V.seq ?_
  refine V.region ?_
  refine VL.q (.inl rfl) rfl (by decide) (yq_loadS rfl Try.underlying32 sz32_Desk rfl (by first | exact Sees.root (by assumption) | exact Sees.own (by repeat (first | exact List.mem_cons_self | exact List.mem_append_left _ (by assumption) | apply List.mem_cons_of_mem | apply List.mem_append_right)) | exact Sees.root (hR _ (by omega)) | exact Sees.own (RowsIn.mem (by repeat (first | exact RowsIn.here | exact RowsIn.last | apply RowsIn.there | apply RowsIn.thereS)) _ (by omega)) | exact Sees.own (WRowsIn.mem (by repeat (first | exact WRowsIn.here | exact WRowsIn.last | apply WRowsIn.there | apply WRowsIn.thereS)) _ (by omega))) rfl rfl rfl) ?_
  refine VL.q (.inl rfl) rfl (by decide) (yq_callf rfl known137_Desk (.cons rfl .nil) (fun w hw => c_long3)) ?_
  refine VL.r (.inl rfl) rfl (by decide) (yr_assign rfl rfl) ?_
  refine VL.nil ?_
  refine VE.then_wp ?_
  refine V.seq ?_
  refine V.seq ?_
  refine V.region ?_
  refine VL.r (.inl rfl) rfl (by decide) (yr_move rfl rfl) ?_
  refine VL.r (.inl rfl) rfl (by decide) (yr_fcmp (b := 0) rfl (.inr (.inr (.inr (.inr (.inl rfl))))) rfl rfl) ?_
  refine VL.r (.inl rfl) rfl (by decide) (yr_not rfl rfl) ?_
  refine VL.nil ?_
  refine VE.then_wp ?_
  refine V.cond rfl (fun h1 => ?_) (fun h1 => ?_)
  · skip
    replace h1 := bnot_t h1
    refine V.seq ?_
    refine V.region ?_
    refine VL.r (.inl rfl) rfl (by decide) (yr_build rfl lay32_Desk rfl .nil (by first | (simp; done) | (simp [vv]; done) | (simp [cn, cn1, cn0]; done)) rfl) ?_
    refine VL.s (.inl rfl) rfl (yc_store rfl sz32_Desk rfl rfl (by repeat (first | exact UpdF.here | apply UpdF.there | apply UpdF.thereS)) (.inr ⟨rfl, rfl⟩) rfl (by first | exact Nat.le_of_ble_eq_true rfl | simp) (by decide) rfl) ?_
    rintro ⟨⟩
    refine VL.nil ?_
    refine VE.then_wp ?_
    refine V.ret ?_
    refine VE.then_ret ?_
    refine retC rfl (rv_cellS rfl Try.underlying32 sz32_Desk (by first | exact Sees.root (by assumption) | exact Sees.own (by repeat (first | exact List.mem_cons_self | exact List.mem_append_left _ (by assumption) | apply List.mem_cons_of_mem | apply List.mem_append_right)) | exact Sees.root (hR _ (by omega)) | exact Sees.own (RowsIn.mem (by repeat (first | exact RowsIn.here | exact RowsIn.last | apply RowsIn.there | apply RowsIn.thereS)) _ (by omega)) | exact Sees.own (WRowsIn.mem (by repeat (first | exact WRowsIn.here | exact WRowsIn.last | apply WRowsIn.there | apply WRowsIn.thereS)) _ (by omega))) rfl rfl rfl) (by nofun) (fun w1 hw => ?_)
    first
      | exact ⟨congrArg vv (poleF_yes (p := ((p1, p2, p3), s)) (v := (v1, v2, v3)) (by assumption)), hw.below⟩
      | exact ⟨congrArg vv (poleF_no (p := ((p1, p2, p3), s)) (v := (v1, v2, v3)) (by assumption)), hw.below⟩
  · skip
    replace h1 := bnot_f h1
    refine V.skip ?_
    refine VE.then_wp ?_
    refine V.seq ?_
    refine Dr.V.drawR [(0, 5), (1, 5), (2, 5), (3, 5), (4, 5), (5, 5), (6, 5), (7, 3)] [] [⟨some ⟨b4, 0, none⟩, [.float .f32 (z3).1, .float .f32 (z3).2.1, .float .f32 (z3).2.2], 3, 32⟩] _ mixed_Desk (by kernel_rfl) (fun w hw => Hp.pickS hw (by apply Pick.one; repeat (first | exact Rem.here | apply Rem.there))) ?_
    refine Dr.SW.p rfl (.inl rfl) rfl (by decide) (yq_loadS rfl Try.underlying32 sz32_Desk rfl (by first | exact Sees.root (by assumption) | exact Sees.own (by (try simp only [List.append_assoc, List.cons_append, List.nil_append]); repeat (first | exact List.mem_cons_self | exact List.mem_append_left _ (by assumption) | apply List.mem_cons_of_mem | apply List.mem_append_right)) | exact Sees.root (hR _ (by omega)) | exact Sees.own (RowsIn.mem (by (try simp only [List.append_assoc, List.cons_append, List.nil_append]); repeat (first | exact RowsIn.here | exact RowsIn.last | apply RowsIn.there | apply RowsIn.thereS)) _ (by omega)) | exact Sees.own (WRowsIn.mem (by (try simp only [List.append_assoc, List.cons_append, List.nil_append]); repeat (first | exact WRowsIn.here | exact WRowsIn.last | apply WRowsIn.there | apply WRowsIn.thereS)) _ (by omega))) rfl rfl rfl) ?_
    refine Dr.SW.r rfl (.inl rfl) rfl (by decide) (yr_fieldAddr rfl Try.underlying183 rfl rfl sz22_Desk (by decide) rfl) ?_
    refine Dr.SW.p rfl (.inl rfl) rfl (by decide) (yq_load rfl fb22_Desk rfl (by first | exact Sees.root (by assumption) | exact Sees.own (by (try simp only [List.append_assoc, List.cons_append, List.nil_append]); repeat (first | exact List.mem_cons_self | exact List.mem_append_left _ (by assumption) | apply List.mem_cons_of_mem | apply List.mem_append_right)) | exact Sees.root (hR _ (by omega)) | exact Sees.own (RowsIn.mem (by (try simp only [List.append_assoc, List.cons_append, List.nil_append]); repeat (first | exact RowsIn.here | exact RowsIn.last | apply RowsIn.there | apply RowsIn.thereS)) _ (by omega)) | exact Sees.own (WRowsIn.mem (by (try simp only [List.append_assoc, List.cons_append, List.nil_append]); repeat (first | exact WRowsIn.here | exact WRowsIn.last | apply WRowsIn.there | apply WRowsIn.thereS)) _ (by omega))) rfl) ?_
    refine Dr.SW.r rfl (.inl rfl) rfl (by decide) (yr_move rfl rfl) ?_
    refine Dr.SW.p rfl (.inl rfl) rfl (by decide) (yq_callf rfl known221_Desk (.cons rfl .nil) (fun w hw => c_cube)) ?_
    refine Dr.SW.r rfl (.inl rfl) rfl (by decide) (yr_float rfl (.inr (.inr (.inr rfl))) rfl rfl) ?_
    refine Dr.SW.p rfl (.inl rfl) rfl (by decide) (yq_callf rfl known217_Desk (.cons rfl (.cons rfl .nil)) (fun w hw => c_scale3)) ?_
    refine Dr.SW.s rfl (.inl rfl) rfl (yc_store rfl sz32_Desk rfl rfl (Dr.UpdF.app (by repeat (first | exact UpdF.here | apply UpdF.there | apply UpdF.thereS))) (.inr ⟨rfl, rfl⟩) rfl (by first | exact Nat.le_of_ble_eq_true rfl | simp) (by decide) rfl) ?_
    rintro ⟨⟩
    refine Dr.SW.done ?_
    refine Dr.eqO (by simp only [List.append_nil, List.append_assoc, List.cons_append, List.nil_append] <;> rfl) ?_
    refine VE.then_wp ?_
    refine V.ret ?_
    refine retC rfl (rv_cellS rfl Try.underlying32 sz32_Desk (by first | exact Sees.root (by assumption) | exact Sees.own (by repeat (first | exact List.mem_cons_self | exact List.mem_append_left _ (by assumption) | apply List.mem_cons_of_mem | apply List.mem_append_right)) | exact Sees.root (hR _ (by omega)) | exact Sees.own (RowsIn.mem (by repeat (first | exact RowsIn.here | exact RowsIn.last | apply RowsIn.there | apply RowsIn.thereS)) _ (by omega)) | exact Sees.own (WRowsIn.mem (by repeat (first | exact WRowsIn.here | exact WRowsIn.last | apply WRowsIn.there | apply WRowsIn.thereS)) _ (by omega))) rfl rfl rfl) (by nofun) (fun w1 hw => ?_)
    first
      | exact ⟨congrArg vv (poleF_yes (p := ((p1, p2, p3), s)) (v := (v1, v2, v3)) (by assumption)), hw.below⟩
      | exact ⟨congrArg vv (poleF_no (p := ((p1, p2, p3), s)) (v := (v1, v2, v3)) (by assumption)), hw.below⟩

theorem c_l05Field {w : World} {b : Option Addr} {ps : List Pl} {k v1 v2 v3 : Nat} (hB : Cl w b (pl ps)) (hk : k < ps.length) : Pure Try.prog 220 [.pointer (some (adr b (k * 4))), vv (v1, v2, v3)] w (vv (poleF (ps.getD k zp) (v1, v2, v3))) := by
  refine Pure.enter Try.func220 rfl Try.ntmps220 (Nat.le_of_ble_eq_true rfl) ?_
  refine V.seq ?_
  refine V.region ?_
  refine VL.new1 (.inl rfl) rfl (by decide) (yn_box rfl rfl (.inr ⟨rfl, rfl⟩)) ?_
  intro b3
  refine VL.new1 (.inl rfl) rfl (by decide) (yn_alloc rfl zero32_Desk rfl) ?_
  intro b4
  refine VL.nil ?_
  refine VE.then_wp ?_
  refine V.seq ?_
  refine Dr.V.drawR [(0, 5), (1, 5), (2, 5), (3, 5), (4, 5), (5, 5), (6, 2), (7, 3)] [(6, ((fun b => .pointer (some (adr (some ⟨b, 0, none⟩) 0))), (fun b => ⟨some ⟨b, 0, none⟩, [Value.float .f32 0, Value.float .f32 0, Value.float .f32 0], 3, 32⟩)))] [] _ mixed_Desk (by kernel_rfl) (fun w hw => hw) ?_
  refine Dr.SW.p rfl (.inl rfl) rfl (by decide) (yq_loadS rfl Try.underlying32 sz32_Desk rfl (by first | exact Sees.root (by assumption) | exact Sees.own (by (try simp only [List.append_assoc, List.cons_append, List.nil_append]); repeat (first | exact List.mem_cons_self | exact List.mem_append_left _ (by assumption) | apply List.mem_cons_of_mem | apply List.mem_append_right)) | exact Sees.root (hR _ (by omega)) | exact Sees.own (RowsIn.mem (by (try simp only [List.append_assoc, List.cons_append, List.nil_append]); repeat (first | exact RowsIn.here | exact RowsIn.last | apply RowsIn.there | apply RowsIn.thereS)) _ (by omega)) | exact Sees.own (WRowsIn.mem (by (try simp only [List.append_assoc, List.cons_append, List.nil_append]); repeat (first | exact WRowsIn.here | exact WRowsIn.last | apply WRowsIn.there | apply WRowsIn.thereS)) _ (by omega))) rfl rfl rfl) ?_
  refine Dr.SW.r rfl (.inl rfl) rfl (by decide) (yr_move rfl rfl) ?_
  refine Dr.SW.r rfl (.inl rfl) rfl (by decide) (yr_nilCheck rfl rfl) ?_
  refine Dr.SW.r rfl (.inl rfl) rfl (by decide) (yr_fieldAddr rfl Try.underlying183 rfl rfl sz32_Desk (by decide) rfl) ?_
  refine Dr.SW.p rfl (.inl rfl) rfl (by decide) (yq_loadS (cs := [.float .f32 (ps.getD k zp).1.1, .float .f32 (ps.getD k zp).1.2.1, .float .f32 (ps.getD k zp).1.2.2]) rfl Try.underlying32 sz32_Desk rfl (by first | exact Sees.root (by assumption) | exact Sees.own (by (try simp only [List.append_assoc, List.cons_append, List.nil_append]); repeat (first | exact List.mem_cons_self | exact List.mem_append_left _ (by assumption) | apply List.mem_cons_of_mem | apply List.mem_append_right)) | exact Sees.root (hR _ (by omega)) | exact Sees.own (RowsIn.mem (by (try simp only [List.append_assoc, List.cons_append, List.nil_append]); repeat (first | exact RowsIn.here | exact RowsIn.last | apply RowsIn.there | apply RowsIn.thereS)) _ (by omega)) | exact Sees.own (WRowsIn.mem (by (try simp only [List.append_assoc, List.cons_append, List.nil_append]); repeat (first | exact WRowsIn.here | exact WRowsIn.last | apply WRowsIn.there | apply WRowsIn.thereS)) _ (by omega))) (pl_take3 hk) rfl rfl) ?_
  refine Dr.SW.p rfl (.inl rfl) rfl (by decide) (yq_callf rfl known132_Desk (.cons rfl (.cons rfl .nil)) (fun w hw => c_sub3S)) ?_
  refine Dr.SW.a rfl rfl rfl (by decide) rfl (fun w0 => (yn_alloc rfl zero32_Desk rfl)) ?_
  intro b5
  refine Dr.SW.s rfl (.inl rfl) rfl (yc_store rfl sz32_Desk rfl rfl (Dr.UpdF.app (by repeat (first | exact UpdF.here | apply UpdF.there | apply UpdF.thereS))) (.inr ⟨rfl, rfl⟩) rfl (by first | exact Nat.le_of_ble_eq_true rfl | simp) (by decide) rfl) ?_
  rintro ⟨⟩
  refine Dr.SW.done ?_
  refine Dr.eqO (by simp only [List.append_nil, List.append_assoc, List.cons_append, List.nil_append] <;> rfl) ?_
  refine VE.then_wp ?_
  refine V.seq ?_
  refine V.region ?_
  refine VL.q (.inl rfl) rfl (by decide) (yq_loadS rfl Try.underlying32 sz32_Desk rfl (by first | exact Sees.root (by assumption) | exact Sees.own (by repeat (first | exact List.mem_cons_self | exact List.mem_append_left _ (by assumption) | apply List.mem_cons_of_mem | apply List.mem_append_right)) | exact Sees.root (hR _ (by omega)) | exact Sees.own (RowsIn.mem (by repeat (first | exact RowsIn.here | exact RowsIn.last | apply RowsIn.there | apply RowsIn.thereS)) _ (by omega)) | exact Sees.own (WRowsIn.mem (by repeat (first | exact WRowsIn.here | exact WRowsIn.last | apply WRowsIn.there | apply WRowsIn.thereS)) _ (by omega))) rfl rfl rfl) ?_
  refine VL.q (.inl rfl) rfl (by decide) (yq_callf rfl known131_Desk (.cons rfl .nil) (fun w hw => c_long3S)) ?_
  refine VL.r (.inl rfl) rfl (by decide) (yr_assign rfl rfl) ?_
  refine VL.nil ?_
  refine VE.then_wp ?_
  refine V.seq ?_
  refine V.seq ?_
  refine V.region ?_
  refine VL.r (.inl rfl) rfl (by decide) (yr_move rfl rfl) ?_
  refine VL.r (.inl rfl) rfl (by decide) (yr_fcmp (b := 0) rfl (.inr (.inr (.inr (.inr (.inl rfl))))) rfl rfl) ?_
  refine VL.r (.inl rfl) rfl (by decide) (yr_not rfl rfl) ?_
  refine VL.nil ?_
  refine VE.then_wp ?_
  refine V.cond rfl (fun h1 => ?_) (fun h1 => ?_)
  · skip
    replace h1 := bnot_t h1
    refine V.seq ?_
    refine V.region ?_
    refine VL.r (.inl rfl) rfl (by decide) (yr_build rfl lay32_Desk rfl .nil (by first | (simp; done) | (simp [vv]; done) | (simp [cn, cn1, cn0]; done)) rfl) ?_
    refine VL.s (.inl rfl) rfl (yc_store rfl sz32_Desk rfl rfl (by repeat (first | exact UpdF.here | apply UpdF.there | apply UpdF.thereS)) (.inr ⟨rfl, rfl⟩) rfl (by first | exact Nat.le_of_ble_eq_true rfl | simp) (by decide) rfl) ?_
    rintro ⟨⟩
    refine VL.nil ?_
    refine VE.then_wp ?_
    refine V.ret ?_
    refine VE.then_ret ?_
    refine retC rfl (rv_cellS rfl Try.underlying32 sz32_Desk (by first | exact Sees.root (by assumption) | exact Sees.own (by repeat (first | exact List.mem_cons_self | exact List.mem_append_left _ (by assumption) | apply List.mem_cons_of_mem | apply List.mem_append_right)) | exact Sees.root (hR _ (by omega)) | exact Sees.own (RowsIn.mem (by repeat (first | exact RowsIn.here | exact RowsIn.last | apply RowsIn.there | apply RowsIn.thereS)) _ (by omega)) | exact Sees.own (WRowsIn.mem (by repeat (first | exact WRowsIn.here | exact WRowsIn.last | apply WRowsIn.there | apply WRowsIn.thereS)) _ (by omega))) rfl rfl rfl) (by nofun) (fun w1 hw => ?_)
    first
      | exact ⟨congrArg vv (poleF_yes (p := (ps.getD k zp)) (v := (v1, v2, v3)) (by assumption)), hw.below⟩
      | exact ⟨congrArg vv (poleF_no (p := (ps.getD k zp)) (v := (v1, v2, v3)) (by assumption)), hw.below⟩
  · skip
    replace h1 := bnot_f h1
    refine V.skip ?_
    refine VE.then_wp ?_
    refine V.seq ?_
    refine Dr.V.drawR [(0, 5), (1, 5), (2, 5), (3, 5), (4, 5), (5, 5), (6, 5), (7, 5), (8, 5), (9, 3)] [] [⟨some ⟨b4, 0, none⟩, [.float .f32 (z3).1, .float .f32 (z3).2.1, .float .f32 (z3).2.2], 3, 32⟩] _ mixed_Desk (by kernel_rfl) (fun w hw => Hp.pickS hw (by apply Pick.one; repeat (first | exact Rem.here | apply Rem.there))) ?_
    refine Dr.SW.p rfl (.inl rfl) rfl (by decide) (yq_loadS rfl Try.underlying32 sz32_Desk rfl (by first | exact Sees.root (by assumption) | exact Sees.own (by (try simp only [List.append_assoc, List.cons_append, List.nil_append]); repeat (first | exact List.mem_cons_self | exact List.mem_append_left _ (by assumption) | apply List.mem_cons_of_mem | apply List.mem_append_right)) | exact Sees.root (hR _ (by omega)) | exact Sees.own (RowsIn.mem (by (try simp only [List.append_assoc, List.cons_append, List.nil_append]); repeat (first | exact RowsIn.here | exact RowsIn.last | apply RowsIn.there | apply RowsIn.thereS)) _ (by omega)) | exact Sees.own (WRowsIn.mem (by (try simp only [List.append_assoc, List.cons_append, List.nil_append]); repeat (first | exact WRowsIn.here | exact WRowsIn.last | apply WRowsIn.there | apply WRowsIn.thereS)) _ (by omega))) rfl rfl rfl) ?_
    refine Dr.SW.r rfl (.inl rfl) rfl (by decide) (yr_move rfl rfl) ?_
    refine Dr.SW.r rfl (.inl rfl) rfl (by decide) (yr_nilCheck rfl rfl) ?_
    refine Dr.SW.r rfl (.inl rfl) rfl (by decide) (yr_fieldAddr rfl Try.underlying183 rfl rfl sz22_Desk (by decide) rfl) ?_
    refine Dr.SW.p rfl (.inl rfl) rfl (by decide) (yq_load rfl fb22_Desk rfl (by first | exact Sees.root (by assumption) | exact Sees.own (by (try simp only [List.append_assoc, List.cons_append, List.nil_append]); repeat (first | exact List.mem_cons_self | exact List.mem_append_left _ (by assumption) | apply List.mem_cons_of_mem | apply List.mem_append_right)) | exact Sees.root (hR _ (by omega)) | exact Sees.own (RowsIn.mem (by (try simp only [List.append_assoc, List.cons_append, List.nil_append]); repeat (first | exact RowsIn.here | exact RowsIn.last | apply RowsIn.there | apply RowsIn.thereS)) _ (by omega)) | exact Sees.own (WRowsIn.mem (by (try simp only [List.append_assoc, List.cons_append, List.nil_append]); repeat (first | exact WRowsIn.here | exact WRowsIn.last | apply WRowsIn.there | apply WRowsIn.thereS)) _ (by omega))) (pl_get3 hk)) ?_
    refine Dr.SW.r rfl (.inl rfl) rfl (by decide) (yr_move rfl rfl) ?_
    refine Dr.SW.p rfl (.inl rfl) rfl (by decide) (yq_callf rfl known231_Desk (.cons rfl .nil) (fun w hw => c_l05Cube)) ?_
    refine Dr.SW.r rfl (.inl rfl) rfl (by decide) (yr_float rfl (.inr (.inr (.inr rfl))) rfl rfl) ?_
    refine Dr.SW.p rfl (.inl rfl) rfl (by decide) (yq_callf rfl known214_Desk (.cons rfl (.cons rfl .nil)) (fun w hw => c_scale3S)) ?_
    refine Dr.SW.s rfl (.inl rfl) rfl (yc_store rfl sz32_Desk rfl rfl (Dr.UpdF.app (by repeat (first | exact UpdF.here | apply UpdF.there | apply UpdF.thereS))) (.inr ⟨rfl, rfl⟩) rfl (by first | exact Nat.le_of_ble_eq_true rfl | simp) (by decide) rfl) ?_
    rintro ⟨⟩
    refine Dr.SW.done ?_
    refine Dr.eqO (by simp only [List.append_nil, List.append_assoc, List.cons_append, List.nil_append] <;> rfl) ?_
    refine VE.then_wp ?_
    refine V.ret ?_
    refine retC rfl (rv_cellS rfl Try.underlying32 sz32_Desk (by first | exact Sees.root (by assumption) | exact Sees.own (by repeat (first | exact List.mem_cons_self | exact List.mem_append_left _ (by assumption) | apply List.mem_cons_of_mem | apply List.mem_append_right)) | exact Sees.root (hR _ (by omega)) | exact Sees.own (RowsIn.mem (by repeat (first | exact RowsIn.here | exact RowsIn.last | apply RowsIn.there | apply RowsIn.thereS)) _ (by omega)) | exact Sees.own (WRowsIn.mem (by repeat (first | exact WRowsIn.here | exact WRowsIn.last | apply WRowsIn.there | apply WRowsIn.thereS)) _ (by omega))) rfl rfl rfl) (by nofun) (fun w1 hw => ?_)
    first
      | exact ⟨congrArg vv (poleF_yes (p := (ps.getD k zp)) (v := (v1, v2, v3)) (by assumption)), hw.below⟩
      | exact ⟨congrArg vv (poleF_no (p := (ps.getD k zp)) (v := (v1, v2, v3)) (by assumption)), hw.below⟩

theorem c_fieldP {w : World} {b : Option Addr} {d : Nat} {ps : List Pl} {v1 v2 v3 : Nat} (hB : Cl w b (pl ps)) (hpn : ps.length ≤ 1050000) : Pure Try.prog 144 [.slice b ps.length d, vv (v1, v2, v3)] w (vv (sumP ps (v1, v2, v3) ps.length)) := by
  refine Pure.enter Try.func144 rfl Try.ntmps144 (Nat.le_of_ble_eq_true rfl) ?_
  refine V.seq ?_
  refine V.region ?_
  refine VL.new1 (.inl rfl) rfl (by decide) (yn_box rfl rfl (.inr ⟨rfl, rfl⟩)) ?_
  intro b3
  refine VL.new1 (.inl rfl) rfl (by decide) (yn_alloc rfl zero32_Desk rfl) ?_
  intro b4
  refine VL.nil ?_
  refine VE.then_wp ?_
  refine V.seq ?_
  refine V.region ?_
  refine VL.r (.inl rfl) rfl (by decide) (yr_build rfl lay32_Desk rfl .nil (by first | (simp; done) | (simp [vv]; done) | (simp [cn, cn1, cn0]; done)) rfl) ?_
  refine VL.new1 (.inl rfl) rfl (by decide) (yn_alloc rfl zero32_Desk rfl) ?_
  intro b5
  refine VL.s (.inl rfl) rfl (yc_store rfl sz32_Desk rfl rfl (by repeat (first | exact UpdF.here | apply UpdF.there | apply UpdF.thereS)) (.inr ⟨rfl, rfl⟩) rfl (by first | exact Nat.le_of_ble_eq_true rfl | simp) (by decide) rfl) ?_
  rintro ⟨⟩
  refine VL.nil ?_
  refine VE.then_wp ?_
  refine V.seq ?_
  refine V.seq ?_
  refine V.region ?_
  refine VL.r (.inl rfl) rfl (by decide) (yr_move rfl rfl) ?_
  refine VL.r (.inl rfl) rfl (by decide) (yr_len rfl Try.underlying58 rfl) ?_
  refine VL.r (.inl rfl) rfl (by decide) (yr_move (u := .int .i64 0) rfl rfl) ?_
  refine VL.nil ?_
  refine VE.then_wp ?_
  refine V.block ?_
  refine V.loopc (G := Nat) [(3, _), (4, _), (5, _), (9, _), (10, _)] (fun (k : Nat) => k ≤ ps.length) (fun (k : Nat) => [⟨some ⟨b5, 0, none⟩, [.float .f32 ((sumP ps (v1, v2, v3) k)).1, .float .f32 ((sumP ps (v1, v2, v3) k)).2.1, .float .f32 ((sumP ps (v1, v2, v3) k)).2.2], 3, 32⟩, ⟨some ⟨b4, 0, none⟩, [.float .f32 (z3).1, .float .f32 (z3).2.1, .float .f32 (z3).2.2], 3, 32⟩, ⟨some ⟨b3, 0, none⟩, [.float .f32 ((v1, v2, v3)).1, .float .f32 ((v1, v2, v3)).2.1, .float .f32 ((v1, v2, v3)).2.2], 3, 32⟩]) (fun (k : Nat) => [(11, .int .i64 (k : Int))]) (fun (k : Nat) => ps.length - k) 0 (.cons rfl (.cons rfl (.cons rfl (.cons rfl (.cons rfl .nil))))) (.cons rfl .nil) ?_ ?_ ?_
  · exact (fun w hw => hw)
  · exact (by omega)
  rintro k hk
  show V _ _ _ [⟨some ⟨b5, 0, none⟩, [.float .f32 ((sumP ps (v1, v2, v3) k)).1, .float .f32 ((sumP ps (v1, v2, v3) k)).2.1, .float .f32 ((sumP ps (v1, v2, v3) k)).2.2], 3, 32⟩, ⟨some ⟨b4, 0, none⟩, [.float .f32 (z3).1, .float .f32 (z3).2.1, .float .f32 (z3).2.2], 3, 32⟩, ⟨some ⟨b3, 0, none⟩, [.float .f32 ((v1, v2, v3)).1, .float .f32 ((v1, v2, v3)).2.1, .float .f32 ((v1, v2, v3)).2.2], 3, 32⟩] ([(11, .int .i64 (k : Int))] ++ [(3, _), (4, _), (5, _), (9, _), (10, _)]) _ _
  refine V.seq ?_
  refine V.region ?_
  refine VL.r (.inl rfl) rfl (by decide) (yr_icmp rfl (.inr (.inr (.inl rfl))) rfl rfl) ?_
  refine VL.nil ?_
  refine VE.then_wp ?_
  refine V.seq ?_
  refine V.cond rfl (fun h1 => ?_) (fun h1 => ?_)
  · skip
    replace h1 := ic_lss h1
    refine V.skip ?_
    refine VE.then_wp ?_
    refine V.seq ?_
    refine V.block ?_
    refine V.seq ?_
    refine V.region ?_
    refine VL.q (.inl rfl) rfl (by decide) (yq_idxN (k := k) rfl Try.underlying58 sz183_Desk rfl rfl (by first | exact Sees.root (by assumption) | exact Sees.own (by repeat (first | exact List.mem_cons_self | exact List.mem_append_left _ (by assumption) | apply List.mem_cons_of_mem | apply List.mem_append_right)) | exact Sees.root (hR _ (by omega)) | exact Sees.own (RowsIn.mem (by repeat (first | exact RowsIn.here | exact RowsIn.last | apply RowsIn.there | apply RowsIn.thereS)) _ (by omega)) | exact Sees.own (WRowsIn.mem (by repeat (first | exact WRowsIn.here | exact WRowsIn.last | apply WRowsIn.there | apply WRowsIn.thereS)) _ (by omega))) (by first | rfl | omega | (push_cast; rfl) | (push_cast; omega) | exact tmod_nat _ _) (by exact pl_length _) (by decide) (by omega)) ?_
    refine VL.q (.inl rfl) rfl (by decide) (yq_loadP rfl Try.underlying183 sz183_Desk rfl (by first | exact Sees.root (by assumption) | exact Sees.own (by repeat (first | exact List.mem_cons_self | exact List.mem_append_left _ (by assumption) | apply List.mem_cons_of_mem | apply List.mem_append_right)) | exact Sees.root (hR _ (by omega)) | exact Sees.own (RowsIn.mem (by repeat (first | exact RowsIn.here | exact RowsIn.last | apply RowsIn.there | apply RowsIn.thereS)) _ (by omega)) | exact Sees.own (WRowsIn.mem (by repeat (first | exact WRowsIn.here | exact WRowsIn.last | apply WRowsIn.there | apply WRowsIn.thereS)) _ (by omega))) (by omega)) ?_
    refine VL.new1 (.inl rfl) rfl (by decide) (yn_alloc rfl zero183_Desk rfl) ?_
    intro b7
    refine VL.s (.inl rfl) rfl (yc_store rfl sz183_Desk rfl rfl (by repeat (first | exact UpdF.here | apply UpdF.there | apply UpdF.thereS)) (.inr ⟨rfl, rfl⟩) rfl (by first | exact Nat.le_of_ble_eq_true rfl | simp) (by decide) rfl) ?_
    rintro ⟨⟩
    refine VL.nil ?_
    refine VE.then_wp ?_
    refine Dr.V.drawR [(1, 5), (2, 5), (3, 5), (0, 0), (4, 5), (5, 3)] [] [⟨some ⟨b5, 0, none⟩, [.float .f32 ((sumP ps (v1, v2, v3) k)).1, .float .f32 ((sumP ps (v1, v2, v3) k)).2.1, .float .f32 ((sumP ps (v1, v2, v3) k)).2.2], 3, 32⟩] _ mixed_Desk (by kernel_rfl) (fun w hw => Hp.pickS hw (by apply Pick.one; repeat (first | exact Rem.here | apply Rem.there))) ?_
    refine Dr.SW.p rfl (.inl rfl) rfl (by decide) (yq_loadS rfl Try.underlying183 sz183_Desk rfl (by first | exact Sees.root (by assumption) | exact Sees.own (by (try simp only [List.append_assoc, List.cons_append, List.nil_append]); repeat (first | exact List.mem_cons_self | exact List.mem_append_left _ (by assumption) | apply List.mem_cons_of_mem | apply List.mem_append_right)) | exact Sees.root (hR _ (by omega)) | exact Sees.own (RowsIn.mem (by (try simp only [List.append_assoc, List.cons_append, List.nil_append]); repeat (first | exact RowsIn.here | exact RowsIn.last | apply RowsIn.there | apply RowsIn.thereS)) _ (by omega)) | exact Sees.own (WRowsIn.mem (by (try simp only [List.append_assoc, List.cons_append, List.nil_append]); repeat (first | exact WRowsIn.here | exact WRowsIn.last | apply WRowsIn.there | apply WRowsIn.thereS)) _ (by omega))) rfl rfl rfl) ?_
    refine Dr.SW.p rfl (.inl rfl) rfl (by decide) (yq_loadS rfl Try.underlying32 sz32_Desk rfl (by first | exact Sees.root (by assumption) | exact Sees.own (by (try simp only [List.append_assoc, List.cons_append, List.nil_append]); repeat (first | exact List.mem_cons_self | exact List.mem_append_left _ (by assumption) | apply List.mem_cons_of_mem | apply List.mem_append_right)) | exact Sees.root (hR _ (by omega)) | exact Sees.own (RowsIn.mem (by (try simp only [List.append_assoc, List.cons_append, List.nil_append]); repeat (first | exact RowsIn.here | exact RowsIn.last | apply RowsIn.there | apply RowsIn.thereS)) _ (by omega)) | exact Sees.own (WRowsIn.mem (by (try simp only [List.append_assoc, List.cons_append, List.nil_append]); repeat (first | exact WRowsIn.here | exact WRowsIn.last | apply WRowsIn.there | apply WRowsIn.thereS)) _ (by omega))) rfl rfl rfl) ?_
    refine Dr.SW.p rfl (.inl rfl) rfl (by decide) (yq_callf rfl known194_Desk (.cons rfl (.cons rfl .nil)) (fun w hw => (c_poleF (p1 := (ps.getD k zp).1.1) (p2 := (ps.getD k zp).1.2.1) (p3 := (ps.getD k zp).1.2.2) (s := (ps.getD k zp).2)))) ?_
    refine Dr.SW.q rfl (.inl rfl) rfl (by decide) (yq_loadS rfl Try.underlying32 sz32_Desk rfl (by first | exact Sees.root (by assumption) | exact Sees.own (by (try simp only [List.append_assoc, List.cons_append, List.nil_append]); repeat (first | exact List.mem_cons_self | exact List.mem_append_left _ (by assumption) | apply List.mem_cons_of_mem | apply List.mem_append_right)) | exact Sees.root (hR _ (by omega)) | exact Sees.own (RowsIn.mem (by (try simp only [List.append_assoc, List.cons_append, List.nil_append]); repeat (first | exact RowsIn.here | exact RowsIn.last | apply RowsIn.there | apply RowsIn.thereS)) _ (by omega)) | exact Sees.own (WRowsIn.mem (by (try simp only [List.append_assoc, List.cons_append, List.nil_append]); repeat (first | exact WRowsIn.here | exact WRowsIn.last | apply WRowsIn.there | apply WRowsIn.thereS)) _ (by omega))) rfl rfl rfl) ?_
    refine Dr.SW.p rfl (.inl rfl) rfl (by decide) (yq_callf rfl known143_Desk (.cons rfl (.cons rfl .nil)) (fun w hw => c_add3)) ?_
    refine Dr.SW.s rfl (.inl rfl) rfl (yc_store rfl sz32_Desk rfl rfl (Dr.UpdF.app (by repeat (first | exact UpdF.here | apply UpdF.there | apply UpdF.thereS))) (.inr ⟨rfl, rfl⟩) rfl (by first | exact Nat.le_of_ble_eq_true rfl | simp) (by decide) rfl) ?_
    rintro ⟨⟩
    refine Dr.SW.done ?_
    refine Dr.eqO (by simp only [List.append_nil, List.append_assoc, List.cons_append, List.nil_append] <;> rfl) ?_
    refine VE.block_normal ?_
    refine VE.then_wp ?_
    refine V.region ?_
    refine VL.r (.inl rfl) rfl (by decide) (yr_int rfl rfl rfl (.inl ⟨rfl, wrap_in (by omega)⟩)) ?_
    refine VL.r (.inl rfl) rfl (by decide) (yr_move rfl rfl) ?_
    refine VL.nil ?_
    refine VE.round (k + 1) ?_ ?_ ?_ ?_ ?_
    · exact (.cons rfl .nil)
    · exact (.cons rfl (.cons rfl (.cons rfl (.cons rfl (.cons rfl .nil)))))
    · exact (fun w hw => hw.sub ((List.sublist_cons_self _ _).cons_cons _))
    · omega
    · (try dsimp only); omega
  · skip
    replace h1 := ic_lss' h1
    refine V.exit ?_
    refine VE.then_exit ?_
    refine VE.then_exit ?_
    refine VE.block_here ?_
    refine VE.then_wp ?_
    refine V.seq ?_
    refine V.region ?_
    refine VL.q (.inl rfl) rfl (by decide) (yq_loadS rfl Try.underlying32 sz32_Desk rfl (by first | exact Sees.root (by assumption) | exact Sees.own (by repeat (first | exact List.mem_cons_self | exact List.mem_append_left _ (by assumption) | apply List.mem_cons_of_mem | apply List.mem_append_right)) | exact Sees.root (hR _ (by omega)) | exact Sees.own (RowsIn.mem (by repeat (first | exact RowsIn.here | exact RowsIn.last | apply RowsIn.there | apply RowsIn.thereS)) _ (by omega)) | exact Sees.own (WRowsIn.mem (by repeat (first | exact WRowsIn.here | exact WRowsIn.last | apply WRowsIn.there | apply WRowsIn.thereS)) _ (by omega))) rfl rfl rfl) ?_
    refine VL.s (.inl rfl) rfl (yc_store rfl sz32_Desk rfl rfl (by repeat (first | exact UpdF.here | apply UpdF.there | apply UpdF.thereS)) (.inr ⟨rfl, rfl⟩) rfl (by first | exact Nat.le_of_ble_eq_true rfl | simp) (by decide) rfl) ?_
    rintro ⟨⟩
    refine VL.nil ?_
    refine VE.then_wp ?_
    refine V.ret ?_
    refine retC rfl (rv_cellS rfl Try.underlying32 sz32_Desk (by first | exact Sees.root (by assumption) | exact Sees.own (by repeat (first | exact List.mem_cons_self | exact List.mem_append_left _ (by assumption) | apply List.mem_cons_of_mem | apply List.mem_append_right)) | exact Sees.root (hR _ (by omega)) | exact Sees.own (RowsIn.mem (by repeat (first | exact RowsIn.here | exact RowsIn.last | apply RowsIn.there | apply RowsIn.thereS)) _ (by omega)) | exact Sees.own (WRowsIn.mem (by repeat (first | exact WRowsIn.here | exact WRowsIn.last | apply WRowsIn.there | apply WRowsIn.thereS)) _ (by omega))) rfl rfl rfl) (by nofun) (fun w1 hw => ?_)
    obtain rfl : k = ps.length := by omega
    exact ⟨rfl, hw.below⟩

theorem c_l05Fields {w : World} {b : Option Addr} {d : Nat} {ps : List Pl} {v1 v2 v3 : Nat} (hB : Cl w b (pl ps)) (hpn : ps.length ≤ 1050000) : Pure Try.prog 193 [.slice b ps.length d, vv (v1, v2, v3)] w (vv (sumP ps (v1, v2, v3) ps.length)) := by
  refine Pure.enter Try.func193 rfl Try.ntmps193 (Nat.le_of_ble_eq_true rfl) ?_
  refine V.seq ?_
  refine V.region ?_
  refine VL.new1 (.inl rfl) rfl (by decide) (yn_box rfl rfl (.inr ⟨rfl, rfl⟩)) ?_
  intro b3
  refine VL.new1 (.inl rfl) rfl (by decide) (yn_alloc rfl zero32_Desk rfl) ?_
  intro b4
  refine VL.nil ?_
  refine VE.then_wp ?_
  refine V.seq ?_
  refine V.region ?_
  refine VL.r (.inl rfl) rfl (by decide) (yr_build rfl lay32_Desk rfl .nil (by first | (simp; done) | (simp [vv]; done) | (simp [cn, cn1, cn0]; done)) rfl) ?_
  refine VL.new1 (.inl rfl) rfl (by decide) (yn_alloc rfl zero32_Desk rfl) ?_
  intro b5
  refine VL.s (.inl rfl) rfl (yc_store rfl sz32_Desk rfl rfl (by repeat (first | exact UpdF.here | apply UpdF.there | apply UpdF.thereS)) (.inr ⟨rfl, rfl⟩) rfl (by first | exact Nat.le_of_ble_eq_true rfl | simp) (by decide) rfl) ?_
  rintro ⟨⟩
  refine VL.nil ?_
  refine VE.then_wp ?_
  refine V.seq ?_
  refine V.seq ?_
  refine V.region ?_
  refine VL.r (.inl rfl) rfl (by decide) (yr_move rfl rfl) ?_
  refine VL.r (.inl rfl) rfl (by decide) (yr_len rfl Try.underlying58 rfl) ?_
  refine VL.r (.inl rfl) rfl (by decide) (yr_move (u := .int .i64 0) rfl rfl) ?_
  refine VL.nil ?_
  refine VE.then_wp ?_
  refine V.block ?_
  refine V.loopc (G := Nat) [(0, _), (3, _), (4, _), (5, _), (9, _)] (fun (k : Nat) => k ≤ ps.length) (fun (k : Nat) => [⟨some ⟨b5, 0, none⟩, [.float .f32 ((sumP ps (v1, v2, v3) k)).1, .float .f32 ((sumP ps (v1, v2, v3) k)).2.1, .float .f32 ((sumP ps (v1, v2, v3) k)).2.2], 3, 32⟩, ⟨some ⟨b4, 0, none⟩, [.float .f32 (z3).1, .float .f32 (z3).2.1, .float .f32 (z3).2.2], 3, 32⟩, ⟨some ⟨b3, 0, none⟩, [.float .f32 ((v1, v2, v3)).1, .float .f32 ((v1, v2, v3)).2.1, .float .f32 ((v1, v2, v3)).2.2], 3, 32⟩]) (fun (k : Nat) => [(10, .int .i64 (k : Int))]) (fun (k : Nat) => ps.length - k) 0 (.cons rfl (.cons rfl (.cons rfl (.cons rfl (.cons rfl .nil))))) (.cons rfl .nil) ?_ ?_ ?_
  · exact (fun w hw => hw)
  · exact (by omega)
  rintro k hk
  show V _ _ _ [⟨some ⟨b5, 0, none⟩, [.float .f32 ((sumP ps (v1, v2, v3) k)).1, .float .f32 ((sumP ps (v1, v2, v3) k)).2.1, .float .f32 ((sumP ps (v1, v2, v3) k)).2.2], 3, 32⟩, ⟨some ⟨b4, 0, none⟩, [.float .f32 (z3).1, .float .f32 (z3).2.1, .float .f32 (z3).2.2], 3, 32⟩, ⟨some ⟨b3, 0, none⟩, [.float .f32 ((v1, v2, v3)).1, .float .f32 ((v1, v2, v3)).2.1, .float .f32 ((v1, v2, v3)).2.2], 3, 32⟩] ([(10, .int .i64 (k : Int))] ++ [(0, _), (3, _), (4, _), (5, _), (9, _)]) _ _
  refine V.seq ?_
  refine V.region ?_
  refine VL.r (.inl rfl) rfl (by decide) (yr_icmp rfl (.inr (.inr (.inl rfl))) rfl rfl) ?_
  refine VL.nil ?_
  refine VE.then_wp ?_
  refine V.seq ?_
  refine V.cond rfl (fun h1 => ?_) (fun h1 => ?_)
  · skip
    replace h1 := ic_lss h1
    refine V.skip ?_
    refine VE.then_wp ?_
    refine V.seq ?_
    refine V.block ?_
    refine V.seq ?_
    refine V.region ?_
    refine VL.r (.inl rfl) rfl (by decide) (yr_move rfl rfl) ?_
    refine VL.r (.inl rfl) rfl (by decide) (yr_assign rfl rfl) ?_
    refine VL.nil ?_
    refine VE.then_wp ?_
    refine Dr.V.drawR [(1, 5), (2, 5), (3, 5), (4, 5), (5, 5), (0, 0), (6, 5), (7, 3)] [] [⟨some ⟨b5, 0, none⟩, [.float .f32 ((sumP ps (v1, v2, v3) k)).1, .float .f32 ((sumP ps (v1, v2, v3) k)).2.1, .float .f32 ((sumP ps (v1, v2, v3) k)).2.2], 3, 32⟩] _ mixed_Desk (by kernel_rfl) (fun w hw => Hp.pickS hw (by apply Pick.one; repeat (first | exact Rem.here | apply Rem.there))) ?_
    refine Dr.SW.r rfl (.inl rfl) rfl (by decide) (yr_move rfl rfl) ?_
    refine Dr.SW.r rfl (.inl rfl) rfl (by decide) (yr_move rfl rfl) ?_
    refine Dr.SW.p rfl (.inl rfl) rfl (by decide) (yq_idxN (k := k) rfl Try.underlying58 sz183_Desk rfl rfl (by first | exact Sees.root (by assumption) | exact Sees.own (by (try simp only [List.append_assoc, List.cons_append, List.nil_append]); repeat (first | exact List.mem_cons_self | exact List.mem_append_left _ (by assumption) | apply List.mem_cons_of_mem | apply List.mem_append_right)) | exact Sees.root (hR _ (by omega)) | exact Sees.own (RowsIn.mem (by (try simp only [List.append_assoc, List.cons_append, List.nil_append]); repeat (first | exact RowsIn.here | exact RowsIn.last | apply RowsIn.there | apply RowsIn.thereS)) _ (by omega)) | exact Sees.own (WRowsIn.mem (by (try simp only [List.append_assoc, List.cons_append, List.nil_append]); repeat (first | exact WRowsIn.here | exact WRowsIn.last | apply WRowsIn.there | apply WRowsIn.thereS)) _ (by omega))) (by first | rfl | omega | (push_cast; rfl) | (push_cast; omega) | exact tmod_nat _ _) (by exact pl_length _) (by decide) (by omega)) ?_
    refine Dr.SW.p rfl (.inl rfl) rfl (by decide) (yq_loadS rfl Try.underlying32 sz32_Desk rfl (by first | exact Sees.root (by assumption) | exact Sees.own (by (try simp only [List.append_assoc, List.cons_append, List.nil_append]); repeat (first | exact List.mem_cons_self | exact List.mem_append_left _ (by assumption) | apply List.mem_cons_of_mem | apply List.mem_append_right)) | exact Sees.root (hR _ (by omega)) | exact Sees.own (RowsIn.mem (by (try simp only [List.append_assoc, List.cons_append, List.nil_append]); repeat (first | exact RowsIn.here | exact RowsIn.last | apply RowsIn.there | apply RowsIn.thereS)) _ (by omega)) | exact Sees.own (WRowsIn.mem (by (try simp only [List.append_assoc, List.cons_append, List.nil_append]); repeat (first | exact WRowsIn.here | exact WRowsIn.last | apply WRowsIn.there | apply WRowsIn.thereS)) _ (by omega))) rfl rfl rfl) ?_
    refine Dr.SW.p rfl (.inl rfl) rfl (by decide) (yq_callf rfl known220_Desk (.cons rfl (.cons rfl .nil)) (fun w hw => (c_l05Field (k := k) (by first | exact Sees.root (by assumption) w hw | exact Sees.own (by (try simp only [List.append_assoc, List.cons_append, List.nil_append]); repeat (first | exact List.mem_cons_self | exact List.mem_append_left _ (by assumption) | apply List.mem_cons_of_mem | apply List.mem_append_right)) w hw) (by omega)))) ?_
    refine Dr.SW.q rfl (.inl rfl) rfl (by decide) (yq_loadS rfl Try.underlying32 sz32_Desk rfl (by first | exact Sees.root (by assumption) | exact Sees.own (by (try simp only [List.append_assoc, List.cons_append, List.nil_append]); repeat (first | exact List.mem_cons_self | exact List.mem_append_left _ (by assumption) | apply List.mem_cons_of_mem | apply List.mem_append_right)) | exact Sees.root (hR _ (by omega)) | exact Sees.own (RowsIn.mem (by (try simp only [List.append_assoc, List.cons_append, List.nil_append]); repeat (first | exact RowsIn.here | exact RowsIn.last | apply RowsIn.there | apply RowsIn.thereS)) _ (by omega)) | exact Sees.own (WRowsIn.mem (by (try simp only [List.append_assoc, List.cons_append, List.nil_append]); repeat (first | exact WRowsIn.here | exact WRowsIn.last | apply WRowsIn.there | apply WRowsIn.thereS)) _ (by omega))) rfl rfl rfl) ?_
    refine Dr.SW.p rfl (.inl rfl) rfl (by decide) (yq_callf rfl known179_Desk (.cons rfl (.cons rfl .nil)) (fun w hw => c_add3S)) ?_
    refine Dr.SW.s rfl (.inl rfl) rfl (yc_store rfl sz32_Desk rfl rfl (Dr.UpdF.app (by repeat (first | exact UpdF.here | apply UpdF.there | apply UpdF.thereS))) (.inr ⟨rfl, rfl⟩) rfl (by first | exact Nat.le_of_ble_eq_true rfl | simp) (by decide) rfl) ?_
    rintro ⟨⟩
    refine Dr.SW.done ?_
    refine Dr.eqO (by simp only [List.append_nil, List.append_assoc, List.cons_append, List.nil_append] <;> rfl) ?_
    refine VE.block_normal ?_
    refine VE.then_wp ?_
    refine V.region ?_
    refine VL.r (.inl rfl) rfl (by decide) (yr_int rfl rfl rfl (.inl ⟨rfl, wrap_in (by omega)⟩)) ?_
    refine VL.r (.inl rfl) rfl (by decide) (yr_move rfl rfl) ?_
    refine VL.nil ?_
    refine VE.round (k + 1) ?_ ?_ ?_ ?_ ?_
    · exact (.cons rfl .nil)
    · exact (.cons rfl (.cons rfl (.cons rfl (.cons rfl (.cons rfl .nil)))))
    · exact (fun w hw => hw)
    · omega
    · (try dsimp only); omega
  · skip
    replace h1 := ic_lss' h1
    refine V.exit ?_
    refine VE.then_exit ?_
    refine VE.then_exit ?_
    refine VE.block_here ?_
    refine VE.then_wp ?_
    refine V.seq ?_
    refine V.region ?_
    refine VL.q (.inl rfl) rfl (by decide) (yq_loadS rfl Try.underlying32 sz32_Desk rfl (by first | exact Sees.root (by assumption) | exact Sees.own (by repeat (first | exact List.mem_cons_self | exact List.mem_append_left _ (by assumption) | apply List.mem_cons_of_mem | apply List.mem_append_right)) | exact Sees.root (hR _ (by omega)) | exact Sees.own (RowsIn.mem (by repeat (first | exact RowsIn.here | exact RowsIn.last | apply RowsIn.there | apply RowsIn.thereS)) _ (by omega)) | exact Sees.own (WRowsIn.mem (by repeat (first | exact WRowsIn.here | exact WRowsIn.last | apply WRowsIn.there | apply WRowsIn.thereS)) _ (by omega))) rfl rfl rfl) ?_
    refine VL.s (.inl rfl) rfl (yc_store rfl sz32_Desk rfl rfl (by repeat (first | exact UpdF.here | apply UpdF.there | apply UpdF.thereS)) (.inr ⟨rfl, rfl⟩) rfl (by first | exact Nat.le_of_ble_eq_true rfl | simp) (by decide) rfl) ?_
    rintro ⟨⟩
    refine VL.nil ?_
    refine VE.then_wp ?_
    refine V.ret ?_
    refine retC rfl (rv_cellS rfl Try.underlying32 sz32_Desk (by first | exact Sees.root (by assumption) | exact Sees.own (by repeat (first | exact List.mem_cons_self | exact List.mem_append_left _ (by assumption) | apply List.mem_cons_of_mem | apply List.mem_append_right)) | exact Sees.root (hR _ (by omega)) | exact Sees.own (RowsIn.mem (by repeat (first | exact RowsIn.here | exact RowsIn.last | apply RowsIn.there | apply RowsIn.thereS)) _ (by omega)) | exact Sees.own (WRowsIn.mem (by repeat (first | exact WRowsIn.here | exact WRowsIn.last | apply WRowsIn.there | apply WRowsIn.thereS)) _ (by omega))) rfl rfl rfl) (by nofun) (fun w1 hw => ?_)
    obtain rfl : k = ps.length := by omega
    exact ⟨rfl, hw.below⟩

theorem c_implDesk {w : World} {a : Option Addr} {c : Nat} {f : Nat → Option Addr × Nat} {ws : List Wr} {b : Option Addr} {d : Nat} {ps : List Pl} {a1 a2 a3 : Option Addr} {c1 c2 c3 : Nat} {xs ys zs : List Nat} (hA : Cl w a (whd f ws)) (hR : WRws w f ws) (hn : wbulk ws ≤ 1050000) (hB : Cl w b (pl ps)) (hpn : ps.length ≤ 1050000) (hx : Cl w a1 (fl xs)) (hy : Cl w a2 (fl ys)) (hz : Cl w a3 (fl zs)) (hcn : xs.length + ys.length + zs.length ≤ 1050000) : Pure Try.prog 42 [.agg #[.slice a ws.length c, .slice b ps.length d, .slice a1 xs.length c1, .slice a2 ys.length c2, .slice a3 zs.length c3]] w (.bool (deskOk ws ps xs ys zs)) := by
  refine Pure.enter Try.func42 rfl Try.ntmps42 (Nat.le_of_ble_eq_true rfl) ?_
  have hwl : ws.length ≤ wbulk ws := by unfold wbulk; omega
  have hrw : ∀ k, k < ws.length → (ws.getD k zw).1.length ≤ 1050000 := fun k hk => by have := wbulk_row hk; omega
  refine V.seq ?_
  refine V.region ?_
  refine VL.new1 (.inl rfl) rfl (by decide) (yn_box rfl rfl (.inr ⟨rfl, rfl⟩)) ?_
  intro b1
  refine VL.r (.inl rfl) rfl (by decide) (yr_assign (u := .bool false) rfl rfl) ?_
  refine VL.nil ?_
  refine VE.then_wp ?_
  refine V.seq ?_
  refine V.region ?_
  refine VL.r (.inl rfl) rfl (by decide) (yr_fieldAddr rfl Try.underlying62 rfl rfl sz57_Desk (by decide) rfl) ?_
  refine VL.q (.inl rfl) rfl (by decide) (yq_load rfl fb57_Desk rfl (by first | exact Sees.root (by assumption) | exact Sees.own (by repeat (first | exact List.mem_cons_self | exact List.mem_append_left _ (by assumption) | apply List.mem_cons_of_mem | apply List.mem_append_right)) | exact Sees.root (hR _ (by omega)) | exact Sees.own (RowsIn.mem (by repeat (first | exact RowsIn.here | exact RowsIn.last | apply RowsIn.there | apply RowsIn.thereS)) _ (by omega)) | exact Sees.own (WRowsIn.mem (by repeat (first | exact WRowsIn.here | exact WRowsIn.last | apply WRowsIn.there | apply WRowsIn.thereS)) _ (by omega))) rfl) ?_
  refine VL.q (.inl rfl) rfl (by decide) (yq_callf rfl known112_Desk (.cons rfl .nil) (fun w hw => (c_implAre (by first | exact Sees.root (by assumption) w hw | exact Sees.own (by repeat (first | exact List.mem_cons_self | exact List.mem_append_left _ (by assumption) | apply List.mem_cons_of_mem | apply List.mem_append_right)) w hw) (by first | exact WRws.root (by assumption) hw | exact WRws.own (by repeat (first | exact WRowsIn.here | exact WRowsIn.last | apply WRowsIn.there | apply WRowsIn.thereS)) hw) (by omega)))) ?_
  refine VL.r (.inl rfl) rfl (by decide) (yr_move rfl rfl) ?_
  refine VX.split 6 _ rfl (fun h1 => ?_) (fun h1 => ?_)
  · skip
    refine VL.r (.inr ⟨_, _, _, rfl, rfl, rfl⟩) rfl (by decide) (yr_fieldAddr rfl Try.underlying62 rfl rfl sz58_Desk (by decide) rfl) ?_
    refine VL.q (.inr ⟨_, _, _, rfl, rfl, rfl⟩) rfl (by decide) (yq_load rfl fb58_Desk rfl (by first | exact Sees.root (by assumption) | exact Sees.own (by repeat (first | exact List.mem_cons_self | exact List.mem_append_left _ (by assumption) | apply List.mem_cons_of_mem | apply List.mem_append_right)) | exact Sees.root (hR _ (by omega)) | exact Sees.own (RowsIn.mem (by repeat (first | exact RowsIn.here | exact RowsIn.last | apply RowsIn.there | apply RowsIn.thereS)) _ (by omega)) | exact Sees.own (WRowsIn.mem (by repeat (first | exact WRowsIn.here | exact WRowsIn.last | apply WRowsIn.there | apply WRowsIn.thereS)) _ (by omega))) rfl) ?_
    refine VL.q (.inr ⟨_, _, _, rfl, rfl, rfl⟩) rfl (by decide) (yq_callf rfl known113_Desk (.cons rfl .nil) (fun w hw => c_areP)) ?_
    refine VL.r (.inl rfl) rfl (by decide) (yr_pick_t rfl rfl rfl) ?_
    refine VL.r (.inl rfl) rfl (by decide) (yr_move rfl rfl) ?_
    refine VX.split 11 _ rfl (fun h2 => ?_) (fun h2 => ?_)
    · skip
      refine VL.r (.inr ⟨_, _, _, rfl, rfl, rfl⟩) rfl (by decide) (yr_fieldAddr rfl Try.underlying62 rfl rfl sz60_Desk (by decide) rfl) ?_
      refine VL.q (.inr ⟨_, _, _, rfl, rfl, rfl⟩) rfl (by decide) (yq_loadS rfl Try.underlying60 sz60_Desk rfl (by first | exact Sees.root (by assumption) | exact Sees.own (by repeat (first | exact List.mem_cons_self | exact List.mem_append_left _ (by assumption) | apply List.mem_cons_of_mem | apply List.mem_append_right)) | exact Sees.root (hR _ (by omega)) | exact Sees.own (RowsIn.mem (by repeat (first | exact RowsIn.here | exact RowsIn.last | apply RowsIn.there | apply RowsIn.thereS)) _ (by omega)) | exact Sees.own (WRowsIn.mem (by repeat (first | exact WRowsIn.here | exact WRowsIn.last | apply WRowsIn.there | apply WRowsIn.thereS)) _ (by omega))) rfl rfl rfl) ?_
      refine VL.q (.inr ⟨_, _, _, rfl, rfl, rfl⟩) rfl (by decide) (yq_callf rfl known114_Desk (.cons rfl .nil) (fun w hw => (c_implCirc (by first | exact Sees.root (by assumption) w hw | exact Sees.own (by repeat (first | exact List.mem_cons_self | exact List.mem_append_left _ (by assumption) | apply List.mem_cons_of_mem | apply List.mem_append_right)) w hw) (by first | exact Sees.root (by assumption) w hw | exact Sees.own (by repeat (first | exact List.mem_cons_self | exact List.mem_append_left _ (by assumption) | apply List.mem_cons_of_mem | apply List.mem_append_right)) w hw) (by first | exact Sees.root (by assumption) w hw | exact Sees.own (by repeat (first | exact List.mem_cons_self | exact List.mem_append_left _ (by assumption) | apply List.mem_cons_of_mem | apply List.mem_append_right)) w hw) (by omega)))) ?_
      refine VL.r (.inl rfl) rfl (by decide) (yr_pick_t rfl rfl rfl) ?_
      refine VL.r (.inl rfl) rfl (by decide) (yr_assign rfl rfl) ?_
      refine VL.nil ?_
      refine VE.then_wp ?_
      refine V.ret ?_
      refine ret1 rfl rfl (fun w1 hw => ?_)
      first
        | exact ⟨congrArg Value.bool (desk_1 (by assumption)), hw.below⟩
        | exact ⟨congrArg Value.bool (desk_2 (by assumption)), hw.below⟩
        | exact ⟨congrArg Value.bool (desk_3 (by assumption) (by assumption)), hw.below⟩
    · skip
      refine VL.no rfl rfl rfl rfl rfl (by decide) ?_
      refine VL.no rfl rfl rfl rfl rfl (by decide) ?_
      refine VL.no rfl rfl rfl rfl rfl (by decide) ?_
      refine VL.r (.inl rfl) rfl (by decide) (yr_pick_f (u := .bool false) rfl rfl rfl) ?_
      refine VL.r (.inl rfl) rfl (by decide) (yr_assign rfl rfl) ?_
      refine VL.nil ?_
      refine VE.then_wp ?_
      refine V.ret ?_
      refine ret1 rfl rfl (fun w1 hw => ?_)
      first
        | exact ⟨congrArg Value.bool (desk_1 (by assumption)), hw.below⟩
        | exact ⟨congrArg Value.bool (desk_2 (by assumption)), hw.below⟩
        | exact ⟨congrArg Value.bool (desk_3 (by assumption) (by assumption)), hw.below⟩
  · skip
    refine VL.no rfl rfl rfl rfl rfl (by decide) ?_
    refine VL.no rfl rfl rfl rfl rfl (by decide) ?_
    refine VL.no rfl rfl rfl rfl rfl (by decide) ?_
    refine VL.r (.inl rfl) rfl (by decide) (yr_pick_f (u := .bool false) rfl rfl rfl) ?_
    refine VL.r (.inl rfl) rfl (by decide) (yr_move rfl rfl) ?_
    refine VL.no rfl rfl rfl rfl rfl (by decide) ?_
    refine VL.no rfl rfl rfl rfl rfl (by decide) ?_
    refine VL.no rfl rfl rfl rfl rfl (by decide) ?_
    refine VL.r (.inl rfl) rfl (by decide) (yr_pick_f (u := .bool false) rfl rfl rfl) ?_
    refine VL.r (.inl rfl) rfl (by decide) (yr_assign rfl rfl) ?_
    refine VL.nil ?_
    refine VE.then_wp ?_
    refine V.ret ?_
    refine ret1 rfl rfl (fun w1 hw => ?_)
    first
      | exact ⟨congrArg Value.bool (desk_1 (by assumption)), hw.below⟩
      | exact ⟨congrArg Value.bool (desk_2 (by assumption)), hw.below⟩
      | exact ⟨congrArg Value.bool (desk_3 (by assumption) (by assumption)), hw.below⟩

theorem c_l08Is {w : World} {q : Option Addr} {a : Option Addr} {c : Nat} {f : Nat → Option Addr × Nat} {ws : List Wr} {b : Option Addr} {d : Nat} {ps : List Pl} {a1 a2 a3 : Option Addr} {c1 c2 c3 : Nat} {xs ys zs : List Nat} (hQ : Cl w q [.slice a ws.length c, .slice b ps.length d, .slice a1 xs.length c1, .slice a2 ys.length c2, .slice a3 zs.length c3]) (hA : Cl w a (whd f ws)) (hR : WRws w f ws) (hn : wbulk ws ≤ 1050000) (hB : Cl w b (pl ps)) (hpn : ps.length ≤ 1050000) (hx : Cl w a1 (fl xs)) (hy : Cl w a2 (fl ys)) (hz : Cl w a3 (fl zs)) (hcn : xs.length + ys.length + zs.length ≤ 1050000) : Pure Try.prog 109 [.pointer (some (adr q 0))] w (.bool (deskOk ws ps xs ys zs)) := by
  refine Pure.enter Try.func109 rfl Try.ntmps109 (Nat.le_of_ble_eq_true rfl) ?_
  have hwl : ws.length ≤ wbulk ws := by unfold wbulk; omega
  have hrw : ∀ k, k < ws.length → (ws.getD k zw).1.length ≤ 1050000 := fun k hk => by have := wbulk_row hk; omega
  refine V.seq ?_
  refine V.region ?_
  refine VL.r (.inl rfl) rfl (by decide) (yr_assign (u := .bool false) rfl rfl) ?_
  refine VL.nil ?_
  refine VE.then_wp ?_
  refine V.seq ?_
  refine V.region ?_
  refine VL.r (.inl rfl) rfl (by decide) (yr_move rfl rfl) ?_
  refine VL.r (.inl rfl) rfl (by decide) (yr_nilCheck rfl rfl) ?_
  refine VL.r (.inl rfl) rfl (by decide) (yr_fieldAddr rfl Try.underlying62 rfl rfl sz57_Desk (by decide) rfl) ?_
  refine VL.q (.inl rfl) rfl (by decide) (yq_load rfl fb57_Desk rfl (by first | exact Sees.root (by assumption) | exact Sees.own (by repeat (first | exact List.mem_cons_self | exact List.mem_append_left _ (by assumption) | apply List.mem_cons_of_mem | apply List.mem_append_right)) | exact Sees.root (hR _ (by omega)) | exact Sees.own (RowsIn.mem (by repeat (first | exact RowsIn.here | exact RowsIn.last | apply RowsIn.there | apply RowsIn.thereS)) _ (by omega)) | exact Sees.own (WRowsIn.mem (by repeat (first | exact WRowsIn.here | exact WRowsIn.last | apply WRowsIn.there | apply WRowsIn.thereS)) _ (by omega))) rfl) ?_
  refine VL.q (.inl rfl) rfl (by decide) (yq_callf rfl known116_Desk (.cons rfl .nil) (fun w hw => (c_l02Are (by first | exact Sees.root (by assumption) w hw | exact Sees.own (by repeat (first | exact List.mem_cons_self | exact List.mem_append_left _ (by assumption) | apply List.mem_cons_of_mem | apply List.mem_append_right)) w hw) (by first | exact WRws.root (by assumption) hw | exact WRws.own (by repeat (first | exact WRowsIn.here | exact WRowsIn.last | apply WRowsIn.there | apply WRowsIn.thereS)) hw) (by omega)))) ?_
  refine VL.r (.inl rfl) rfl (by decide) (yr_move rfl rfl) ?_
  refine VX.split 8 _ rfl (fun h1 => ?_) (fun h1 => ?_)
  · skip
    refine VL.r (.inr ⟨_, _, _, rfl, rfl, rfl⟩) rfl (by decide) (yr_move rfl rfl) ?_
    refine VL.r (.inr ⟨_, _, _, rfl, rfl, rfl⟩) rfl (by decide) (yr_nilCheck rfl rfl) ?_
    refine VL.r (.inr ⟨_, _, _, rfl, rfl, rfl⟩) rfl (by decide) (yr_fieldAddr rfl Try.underlying62 rfl rfl sz58_Desk (by decide) rfl) ?_
    refine VL.q (.inr ⟨_, _, _, rfl, rfl, rfl⟩) rfl (by decide) (yq_load rfl fb58_Desk rfl (by first | exact Sees.root (by assumption) | exact Sees.own (by repeat (first | exact List.mem_cons_self | exact List.mem_append_left _ (by assumption) | apply List.mem_cons_of_mem | apply List.mem_append_right)) | exact Sees.root (hR _ (by omega)) | exact Sees.own (RowsIn.mem (by repeat (first | exact RowsIn.here | exact RowsIn.last | apply RowsIn.there | apply RowsIn.thereS)) _ (by omega)) | exact Sees.own (WRowsIn.mem (by repeat (first | exact WRowsIn.here | exact WRowsIn.last | apply WRowsIn.there | apply WRowsIn.thereS)) _ (by omega))) rfl) ?_
    refine VL.q (.inr ⟨_, _, _, rfl, rfl, rfl⟩) rfl (by decide) (yq_callf rfl known170_Desk (.cons rfl .nil) (fun w hw => c_l05P)) ?_
    refine VL.r (.inl rfl) rfl (by decide) (yr_pick_t rfl rfl rfl) ?_
    refine VL.r (.inl rfl) rfl (by decide) (yr_move rfl rfl) ?_
    refine VX.split 15 _ rfl (fun h2 => ?_) (fun h2 => ?_)
    · skip
      refine VL.r (.inr ⟨_, _, _, rfl, rfl, rfl⟩) rfl (by decide) (yr_move rfl rfl) ?_
      refine VL.r (.inr ⟨_, _, _, rfl, rfl, rfl⟩) rfl (by decide) (yr_nilCheck rfl rfl) ?_
      refine VL.r (.inr ⟨_, _, _, rfl, rfl, rfl⟩) rfl (by decide) (yr_fieldAddr rfl Try.underlying62 rfl rfl sz60_Desk (by decide) rfl) ?_
      refine VL.q (.inr ⟨_, _, _, rfl, rfl, rfl⟩) rfl (by decide) (yq_callf rfl known171_Desk (.cons rfl .nil) (fun w hw => (c_l03Is (q := q) (o := 2) (all := [.slice a ws.length c, .slice b ps.length d, .slice a1 xs.length c1, .slice a2 ys.length c2, .slice a3 zs.length c3]) (by first | exact Sees.root (by assumption) w hw | exact Sees.own (by repeat (first | exact List.mem_cons_self | exact List.mem_append_left _ (by assumption) | apply List.mem_cons_of_mem | apply List.mem_append_right)) w hw) rfl rfl rfl (by first | exact Sees.root (by assumption) w hw | exact Sees.own (by repeat (first | exact List.mem_cons_self | exact List.mem_append_left _ (by assumption) | apply List.mem_cons_of_mem | apply List.mem_append_right)) w hw) (by first | exact Sees.root (by assumption) w hw | exact Sees.own (by repeat (first | exact List.mem_cons_self | exact List.mem_append_left _ (by assumption) | apply List.mem_cons_of_mem | apply List.mem_append_right)) w hw) (by first | exact Sees.root (by assumption) w hw | exact Sees.own (by repeat (first | exact List.mem_cons_self | exact List.mem_append_left _ (by assumption) | apply List.mem_cons_of_mem | apply List.mem_append_right)) w hw) (by omega)))) ?_
      refine VL.r (.inl rfl) rfl (by decide) (yr_pick_t rfl rfl rfl) ?_
      refine VL.r (.inl rfl) rfl (by decide) (yr_assign rfl rfl) ?_
      refine VL.nil ?_
      refine VE.then_wp ?_
      refine V.ret ?_
      refine ret1 rfl rfl (fun w1 hw => ?_)
      first
        | exact ⟨congrArg Value.bool (desk_1 (by assumption)), hw.below⟩
        | exact ⟨congrArg Value.bool (desk_2 (by assumption)), hw.below⟩
        | exact ⟨congrArg Value.bool (desk_3 (by assumption) (by assumption)), hw.below⟩
    · skip
      refine VL.no rfl rfl rfl rfl rfl (by decide) ?_
      refine VL.no rfl rfl rfl rfl rfl (by decide) ?_
      refine VL.no rfl rfl rfl rfl rfl (by decide) ?_
      refine VL.no rfl rfl rfl rfl rfl (by decide) ?_
      refine VL.r (.inl rfl) rfl (by decide) (yr_pick_f (u := .bool false) rfl rfl rfl) ?_
      refine VL.r (.inl rfl) rfl (by decide) (yr_assign rfl rfl) ?_
      refine VL.nil ?_
      refine VE.then_wp ?_
      refine V.ret ?_
      refine ret1 rfl rfl (fun w1 hw => ?_)
      first
        | exact ⟨congrArg Value.bool (desk_1 (by assumption)), hw.below⟩
        | exact ⟨congrArg Value.bool (desk_2 (by assumption)), hw.below⟩
        | exact ⟨congrArg Value.bool (desk_3 (by assumption) (by assumption)), hw.below⟩
  · skip
    refine VL.no rfl rfl rfl rfl rfl (by decide) ?_
    refine VL.no rfl rfl rfl rfl rfl (by decide) ?_
    refine VL.no rfl rfl rfl rfl rfl (by decide) ?_
    refine VL.no rfl rfl rfl rfl rfl (by decide) ?_
    refine VL.no rfl rfl rfl rfl rfl (by decide) ?_
    refine VL.r (.inl rfl) rfl (by decide) (yr_pick_f (u := .bool false) rfl rfl rfl) ?_
    refine VL.r (.inl rfl) rfl (by decide) (yr_move rfl rfl) ?_
    refine VL.no rfl rfl rfl rfl rfl (by decide) ?_
    refine VL.no rfl rfl rfl rfl rfl (by decide) ?_
    refine VL.no rfl rfl rfl rfl rfl (by decide) ?_
    refine VL.no rfl rfl rfl rfl rfl (by decide) ?_
    refine VL.r (.inl rfl) rfl (by decide) (yr_pick_f (u := .bool false) rfl rfl rfl) ?_
    refine VL.r (.inl rfl) rfl (by decide) (yr_assign rfl rfl) ?_
    refine VL.nil ?_
    refine VE.then_wp ?_
    refine V.ret ?_
    refine ret1 rfl rfl (fun w1 hw => ?_)
    first
      | exact ⟨congrArg Value.bool (desk_1 (by assumption)), hw.below⟩
      | exact ⟨congrArg Value.bool (desk_2 (by assumption)), hw.below⟩
      | exact ⟨congrArg Value.bool (desk_3 (by assumption) (by assumption)), hw.below⟩

theorem c_specDesk {w : World} {a : Option Addr} {c : Nat} {f : Nat → Option Addr × Nat} {ws : List Wr} {b : Option Addr} {d : Nat} {ps : List Pl} {a1 a2 a3 : Option Addr} {c1 c2 c3 : Nat} {xs ys zs : List Nat} (hA : Cl w a (whd f ws)) (hR : WRws w f ws) (hn : wbulk ws ≤ 1050000) (hB : Cl w b (pl ps)) (hpn : ps.length ≤ 1050000) (hx : Cl w a1 (fl xs)) (hy : Cl w a2 (fl ys)) (hz : Cl w a3 (fl zs)) (hcn : xs.length + ys.length + zs.length ≤ 1050000) : Pure Try.prog 40 [.agg #[.slice a ws.length c, .slice b ps.length d, .slice a1 xs.length c1, .slice a2 ys.length c2, .slice a3 zs.length c3]] w (.bool (deskOk ws ps xs ys zs)) := by
  refine Pure.enter Try.func40 rfl Try.ntmps40 (Nat.le_of_ble_eq_true rfl) ?_
  have hwl : ws.length ≤ wbulk ws := by unfold wbulk; omega
  have hrw : ∀ k, k < ws.length → (ws.getD k zw).1.length ≤ 1050000 := fun k hk => by have := wbulk_row hk; omega
  refine V.seq ?_
  refine V.region ?_
  refine VL.new1 (.inl rfl) rfl (by decide) (yn_box rfl rfl (.inr ⟨rfl, rfl⟩)) ?_
  intro b1
  refine VL.r (.inl rfl) rfl (by decide) (yr_assign (u := .bool false) rfl rfl) ?_
  refine VL.nil ?_
  refine VE.then_wp ?_
  refine V.seq ?_
  refine V.region ?_
  refine VL.q (.inl rfl) rfl (by decide) (yq_callf rfl known109_Desk (.cons rfl .nil) (fun w hw => (c_l08Is (by first | exact Sees.root (by assumption) w hw | exact Sees.own (by repeat (first | exact List.mem_cons_self | exact List.mem_append_left _ (by assumption) | apply List.mem_cons_of_mem | apply List.mem_append_right)) w hw) (by first | exact Sees.root (by assumption) w hw | exact Sees.own (by repeat (first | exact List.mem_cons_self | exact List.mem_append_left _ (by assumption) | apply List.mem_cons_of_mem | apply List.mem_append_right)) w hw) (by first | exact WRws.root (by assumption) hw | exact WRws.own (by repeat (first | exact WRowsIn.here | exact WRowsIn.last | apply WRowsIn.there | apply WRowsIn.thereS)) hw) (by omega) (by first | exact Sees.root (by assumption) w hw | exact Sees.own (by repeat (first | exact List.mem_cons_self | exact List.mem_append_left _ (by assumption) | apply List.mem_cons_of_mem | apply List.mem_append_right)) w hw) (by omega) (by first | exact Sees.root (by assumption) w hw | exact Sees.own (by repeat (first | exact List.mem_cons_self | exact List.mem_append_left _ (by assumption) | apply List.mem_cons_of_mem | apply List.mem_append_right)) w hw) (by first | exact Sees.root (by assumption) w hw | exact Sees.own (by repeat (first | exact List.mem_cons_self | exact List.mem_append_left _ (by assumption) | apply List.mem_cons_of_mem | apply List.mem_append_right)) w hw) (by first | exact Sees.root (by assumption) w hw | exact Sees.own (by repeat (first | exact List.mem_cons_self | exact List.mem_append_left _ (by assumption) | apply List.mem_cons_of_mem | apply List.mem_append_right)) w hw) (by omega)))) ?_
  refine VL.r (.inl rfl) rfl (by decide) (yr_assign rfl rfl) ?_
  refine VL.nil ?_
  refine VE.then_wp ?_
  refine V.ret ?_
  refine ret1 rfl rfl (fun w1 hw => ?_)
  exact ⟨rfl, hw.below⟩

theorem c_fieldOA {w : World} {a : Option Addr} {c : Nat} {f : Nat → Option Addr × Nat} {ws : List Wr} {v1 v2 v3 : Nat} (hA : Cl w a (whd f ws)) (hR : WRws w f ws) (hn : wbulk ws ≤ 1050000) (hv : wiresOk ws = true) : Pure Try.prog 142 [.slice a ws.length c, vv (v1, v2, v3)] w (.tuple #[vv (if (fin3 (v1, v2, v3) && fin3 (fieldI ws (v1, v2, v3))) then fieldI ws (v1, v2, v3) else z3), .bool (fin3 (v1, v2, v3) && fin3 (fieldI ws (v1, v2, v3)))]) := by
  refine Pure.enter Try.func142 rfl Try.ntmps142 (Nat.le_of_ble_eq_true rfl) ?_
  have hwl : ws.length ≤ wbulk ws := by unfold wbulk; omega
  have hrw : ∀ k, k < ws.length → (ws.getD k zw).1.length ≤ 1050000 := fun k hk => by have := wbulk_row hk; omega
  refine V.seq ?_
  refine V.region ?_
  refine VL.new1 (.inl rfl) rfl (by decide) (yn_box rfl rfl (.inr ⟨rfl, rfl⟩)) ?_
  intro b3
  refine VL.new1 (.inl rfl) rfl (by decide) (yn_alloc rfl zero32_Desk rfl) ?_
  intro b4
  refine VL.r (.inl rfl) rfl (by decide) (yr_assign (u := .bool false) rfl rfl) ?_
  refine VL.nil ?_
  refine VE.then_wp ?_
  refine V.seq ?_
  refine V.seq ?_
  refine V.region ?_
  refine VL.r (.inl rfl) rfl (by decide) (yr_move rfl rfl) ?_
  refine VL.q (.inl rfl) rfl (by decide) (yq_callf rfl known112_Desk (.cons rfl .nil) (fun w hw => (c_implAre (by first | exact Sees.root (by assumption) w hw | exact Sees.own (by repeat (first | exact List.mem_cons_self | exact List.mem_append_left _ (by assumption) | apply List.mem_cons_of_mem | apply List.mem_append_right)) w hw) (by first | exact WRws.root (by assumption) hw | exact WRws.own (by repeat (first | exact WRowsIn.here | exact WRowsIn.last | apply WRowsIn.there | apply WRowsIn.thereS)) hw) (by omega)))) ?_
  refine VL.r (.inl rfl) rfl (by decide) (yr_not rfl rfl) ?_
  refine VL.nil ?_
  refine VE.then_wp ?_
  refine V.cond rfl (fun h1 => ?_) (fun h1 => ?_)
  · skip
    replace h1 := bnot_t h1
    (rw [hv] at h1; cases h1)
  · skip
    replace h1 := bnot_f h1
    refine V.skip ?_
    refine VE.then_wp ?_
    refine V.seq ?_
    refine V.region ?_
    refine VL.r (.inl rfl) rfl (by decide) (yr_move rfl rfl) ?_
    refine VL.q (.inl rfl) rfl (by decide) (yq_loadS rfl Try.underlying32 sz32_Desk rfl (by first | exact Sees.root (by assumption) | exact Sees.own (by repeat (first | exact List.mem_cons_self | exact List.mem_append_left _ (by assumption) | apply List.mem_cons_of_mem | apply List.mem_append_right)) | exact Sees.root (hR _ (by omega)) | exact Sees.own (RowsIn.mem (by repeat (first | exact RowsIn.here | exact RowsIn.last | apply RowsIn.there | apply RowsIn.thereS)) _ (by omega)) | exact Sees.own (WRowsIn.mem (by repeat (first | exact WRowsIn.here | exact WRowsIn.last | apply WRowsIn.there | apply WRowsIn.thereS)) _ (by omega))) rfl rfl rfl) ?_
    refine VL.q (.inl rfl) rfl (by decide) (yq_callf rfl known125_Desk (.cons rfl (.cons rfl .nil)) (fun w hw => (c_fieldAll (by first | exact Sees.root (by assumption) w hw | exact Sees.own (by repeat (first | exact List.mem_cons_self | exact List.mem_append_left _ (by assumption) | apply List.mem_cons_of_mem | apply List.mem_append_right)) w hw) (by first | exact WRws.root (by assumption) hw | exact WRws.own (by repeat (first | exact WRowsIn.here | exact WRowsIn.last | apply WRowsIn.there | apply WRowsIn.thereS)) hw) (by omega) (by assumption)))) ?_
    refine VL.r (.inl rfl) rfl (by decide) (yr_move rfl rfl) ?_
    refine VL.r (.inl rfl) rfl (by decide) (yr_extract rfl rfl rfl (by nofun)) ?_
    refine VL.r (.inl rfl) rfl (by decide) (yr_extract rfl rfl rfl (by nofun)) ?_
    refine VL.new1 (.inl rfl) rfl (by decide) (yn_alloc rfl zero32_Desk rfl) ?_
    intro b6
    refine VL.s (.inl rfl) rfl (yc_store rfl sz32_Desk rfl rfl (by repeat (first | exact UpdF.here | apply UpdF.there | apply UpdF.thereS)) (.inr ⟨rfl, rfl⟩) rfl (by first | exact Nat.le_of_ble_eq_true rfl | simp) (by decide) rfl) ?_
    rintro ⟨⟩
    refine VL.r (.inl rfl) rfl (by decide) (yr_assign rfl rfl) ?_
    refine VL.nil ?_
    refine VE.then_wp ?_
    refine V.seq ?_
    refine V.seq ?_
    refine V.region ?_
    refine VL.r (.inl rfl) rfl (by decide) (yr_move rfl rfl) ?_
    refine VL.r (.inl rfl) rfl (by decide) (yr_not rfl rfl) ?_
    refine VL.nil ?_
    refine VE.then_wp ?_
    refine V.cond rfl (fun h2 => ?_) (fun h2 => ?_)
    · skip
      replace h2 := bnot_t h2
      refine V.seq ?_
      refine V.region ?_
      refine VL.r (.inl rfl) rfl (by decide) (yr_build rfl lay32_Desk rfl .nil (by first | (simp; done) | (simp [vv]; done) | (simp [cn, cn1, cn0]; done)) rfl) ?_
      refine VL.s (.inl rfl) rfl (yc_store rfl sz32_Desk rfl rfl (by repeat (first | exact UpdF.here | apply UpdF.there | apply UpdF.thereS)) (.inr ⟨rfl, rfl⟩) rfl (by first | exact Nat.le_of_ble_eq_true rfl | simp) (by decide) rfl) ?_
      rintro ⟨⟩
      refine VL.r (.inl rfl) rfl (by decide) (yr_assign (u := .bool false) rfl rfl) ?_
      refine VL.nil ?_
      refine VE.then_wp ?_
      refine V.ret ?_
      refine VE.then_ret ?_
      refine retN rfl (.cons (rv_cellS rfl Try.underlying32 sz32_Desk (by first | exact Sees.root (by assumption) | exact Sees.own (by repeat (first | exact List.mem_cons_self | exact List.mem_append_left _ (by assumption) | apply List.mem_cons_of_mem | apply List.mem_append_right)) | exact Sees.root (hR _ (by omega)) | exact Sees.own (RowsIn.mem (by repeat (first | exact RowsIn.here | exact RowsIn.last | apply RowsIn.there | apply RowsIn.thereS)) _ (by omega)) | exact Sees.own (WRowsIn.mem (by repeat (first | exact WRowsIn.here | exact WRowsIn.last | apply WRowsIn.there | apply WRowsIn.thereS)) _ (by omega))) rfl rfl rfl) (.cons (rv_tmp rfl (by nofun)) .nil)) (by nofun) (fun w1 hw => ?_)
      first
        | (have h9 : (fin3 (v1, v2, v3) && fin3 (fieldI ws (v1, v2, v3))) = true := by assumption
           exact ⟨by rw [h9]; rfl, hw.below⟩)
        | (have h9 : (fin3 (v1, v2, v3) && fin3 (fieldI ws (v1, v2, v3))) = false := by assumption
           exact ⟨by rw [h9]; rfl, hw.below⟩)
    · skip
      replace h2 := bnot_f h2
      refine V.skip ?_
      refine VE.then_wp ?_
      refine V.seq ?_
      refine V.region ?_
      refine VL.q (.inl rfl) rfl (by decide) (yq_loadS rfl Try.underlying32 sz32_Desk rfl (by first | exact Sees.root (by assumption) | exact Sees.own (by repeat (first | exact List.mem_cons_self | exact List.mem_append_left _ (by assumption) | apply List.mem_cons_of_mem | apply List.mem_append_right)) | exact Sees.root (hR _ (by omega)) | exact Sees.own (RowsIn.mem (by repeat (first | exact RowsIn.here | exact RowsIn.last | apply RowsIn.there | apply RowsIn.thereS)) _ (by omega)) | exact Sees.own (WRowsIn.mem (by repeat (first | exact WRowsIn.here | exact WRowsIn.last | apply WRowsIn.there | apply WRowsIn.thereS)) _ (by omega))) rfl rfl rfl) ?_
      refine VL.s (.inl rfl) rfl (yc_store rfl sz32_Desk rfl rfl (by repeat (first | exact UpdF.here | apply UpdF.there | apply UpdF.thereS)) (.inr ⟨rfl, rfl⟩) rfl (by first | exact Nat.le_of_ble_eq_true rfl | simp) (by decide) rfl) ?_
      rintro ⟨⟩
      refine VL.r (.inl rfl) rfl (by decide) (yr_assign (u := .bool true) rfl rfl) ?_
      refine VL.nil ?_
      refine VE.then_wp ?_
      refine V.ret ?_
      refine retN rfl (.cons (rv_cellS rfl Try.underlying32 sz32_Desk (by first | exact Sees.root (by assumption) | exact Sees.own (by repeat (first | exact List.mem_cons_self | exact List.mem_append_left _ (by assumption) | apply List.mem_cons_of_mem | apply List.mem_append_right)) | exact Sees.root (hR _ (by omega)) | exact Sees.own (RowsIn.mem (by repeat (first | exact RowsIn.here | exact RowsIn.last | apply RowsIn.there | apply RowsIn.thereS)) _ (by omega)) | exact Sees.own (WRowsIn.mem (by repeat (first | exact WRowsIn.here | exact WRowsIn.last | apply WRowsIn.there | apply WRowsIn.thereS)) _ (by omega))) rfl rfl rfl) (.cons (rv_tmp rfl (by nofun)) .nil)) (by nofun) (fun w1 hw => ?_)
      first
        | (have h9 : (fin3 (v1, v2, v3) && fin3 (fieldI ws (v1, v2, v3))) = true := by assumption
           exact ⟨by rw [h9]; rfl, hw.below⟩)
        | (have h9 : (fin3 (v1, v2, v3) && fin3 (fieldI ws (v1, v2, v3))) = false := by assumption
           exact ⟨by rw [h9]; rfl, hw.below⟩)

theorem c_implFD {w : World} {a : Option Addr} {c : Nat} {f : Nat → Option Addr × Nat} {ws : List Wr} {b : Option Addr} {d : Nat} {ps : List Pl} {a1 a2 a3 : Option Addr} {c1 c2 c3 : Nat} {xs ys zs : List Nat} {v1 v2 v3 : Nat} (hA : Cl w a (whd f ws)) (hR : WRws w f ws) (hn : wbulk ws ≤ 1050000) (hB : Cl w b (pl ps)) (hpn : ps.length ≤ 1050000) (hx : Cl w a1 (fl xs)) (hy : Cl w a2 (fl ys)) (hz : Cl w a3 (fl zs)) (hcn : xs.length + ys.length + zs.length ≤ 1050000) : Pure Try.prog 55 [.agg #[.slice a ws.length c, .slice b ps.length d, .slice a1 xs.length c1, .slice a2 ys.length c2, .slice a3 zs.length c3], vv (v1, v2, v3)] w (.tuple #[vv (fdV ws ps xs ys zs (v1, v2, v3)), .bool (fdOk ws ps xs ys zs (v1, v2, v3))]) := by
  refine Pure.enter Try.func55 rfl Try.ntmps55 (Nat.le_of_ble_eq_true rfl) ?_
  have hwl : ws.length ≤ wbulk ws := by unfold wbulk; omega
  have hrw : ∀ k, k < ws.length → (ws.getD k zw).1.length ≤ 1050000 := fun k hk => by have := wbulk_row hk; omega
  refine V.seq ?_
  refine V.region ?_
  refine VL.new1 (.inl rfl) rfl (by decide) (yn_box rfl rfl (.inr ⟨rfl, rfl⟩)) ?_
  intro b2
  refine VL.new1 (.inl rfl) rfl (by decide) (yn_box rfl rfl (.inr ⟨rfl, rfl⟩)) ?_
  intro b3
  refine VL.new1 (.inl rfl) rfl (by decide) (yn_alloc rfl zero32_Desk rfl) ?_
  intro b4
  refine VL.r (.inl rfl) rfl (by decide) (yr_assign (u := .bool false) rfl rfl) ?_
  refine VL.nil ?_
  refine VE.then_wp ?_
  refine V.seq ?_
  refine V.seq ?_
  refine V.region ?_
  refine VL.q (.inl rfl) rfl (by decide) (yq_loadS rfl Try.underlying62 sz62_Desk rfl (by first | exact Sees.root (by assumption) | exact Sees.own (by repeat (first | exact List.mem_cons_self | exact List.mem_append_left _ (by assumption) | apply List.mem_cons_of_mem | apply List.mem_append_right)) | exact Sees.root (hR _ (by omega)) | exact Sees.own (RowsIn.mem (by repeat (first | exact RowsIn.here | exact RowsIn.last | apply RowsIn.there | apply RowsIn.thereS)) _ (by omega)) | exact Sees.own (WRowsIn.mem (by repeat (first | exact WRowsIn.here | exact WRowsIn.last | apply WRowsIn.there | apply WRowsIn.thereS)) _ (by omega))) rfl rfl rfl) ?_
  refine VL.q (.inl rfl) rfl (by decide) (yq_callf rfl known42_Desk (.cons rfl .nil) (fun w hw => (c_implDesk (by first | exact Sees.root (by assumption) w hw | exact Sees.own (by repeat (first | exact List.mem_cons_self | exact List.mem_append_left _ (by assumption) | apply List.mem_cons_of_mem | apply List.mem_append_right)) w hw) (by first | exact WRws.root (by assumption) hw | exact WRws.own (by repeat (first | exact WRowsIn.here | exact WRowsIn.last | apply WRowsIn.there | apply WRowsIn.thereS)) hw) (by omega) (by first | exact Sees.root (by assumption) w hw | exact Sees.own (by repeat (first | exact List.mem_cons_self | exact List.mem_append_left _ (by assumption) | apply List.mem_cons_of_mem | apply List.mem_append_right)) w hw) (by omega) (by first | exact Sees.root (by assumption) w hw | exact Sees.own (by repeat (first | exact List.mem_cons_self | exact List.mem_append_left _ (by assumption) | apply List.mem_cons_of_mem | apply List.mem_append_right)) w hw) (by first | exact Sees.root (by assumption) w hw | exact Sees.own (by repeat (first | exact List.mem_cons_self | exact List.mem_append_left _ (by assumption) | apply List.mem_cons_of_mem | apply List.mem_append_right)) w hw) (by first | exact Sees.root (by assumption) w hw | exact Sees.own (by repeat (first | exact List.mem_cons_self | exact List.mem_append_left _ (by assumption) | apply List.mem_cons_of_mem | apply List.mem_append_right)) w hw) (by omega)))) ?_
  refine VL.r (.inl rfl) rfl (by decide) (yr_not rfl rfl) ?_
  refine VL.nil ?_
  refine VE.then_wp ?_
  refine V.cond rfl (fun h1 => ?_) (fun h1 => ?_)
  · skip
    replace h1 := bnot_t h1
    refine V.seq ?_
    refine V.region ?_
    refine VL.r (.inl rfl) rfl (by decide) (yr_build rfl lay32_Desk rfl .nil (by first | (simp; done) | (simp [vv]; done) | (simp [cn, cn1, cn0]; done)) rfl) ?_
    refine VL.s (.inl rfl) rfl (yc_store rfl sz32_Desk rfl rfl (by repeat (first | exact UpdF.here | apply UpdF.there | apply UpdF.thereS)) (.inr ⟨rfl, rfl⟩) rfl (by first | exact Nat.le_of_ble_eq_true rfl | simp) (by decide) rfl) ?_
    rintro ⟨⟩
    refine VL.r (.inl rfl) rfl (by decide) (yr_assign (u := .bool false) rfl rfl) ?_
    refine VL.nil ?_
    refine VE.then_wp ?_
    refine V.ret ?_
    refine VE.then_ret ?_
    refine retN rfl (.cons (rv_cellS rfl Try.underlying32 sz32_Desk (by first | exact Sees.root (by assumption) | exact Sees.own (by repeat (first | exact List.mem_cons_self | exact List.mem_append_left _ (by assumption) | apply List.mem_cons_of_mem | apply List.mem_append_right)) | exact Sees.root (hR _ (by omega)) | exact Sees.own (RowsIn.mem (by repeat (first | exact RowsIn.here | exact RowsIn.last | apply RowsIn.there | apply RowsIn.thereS)) _ (by omega)) | exact Sees.own (WRowsIn.mem (by repeat (first | exact WRowsIn.here | exact WRowsIn.last | apply WRowsIn.there | apply WRowsIn.thereS)) _ (by omega))) rfl rfl rfl) (.cons (rv_tmp rfl (by nofun)) .nil)) (by nofun) (fun w1 hw => ?_)
    first
      | (have hs : fdOk ws ps xs ys zs (v1, v2, v3) = true := fd_yes (by assumption) h9
         exact ⟨by rw [fdV_yes hs, hs, h9] <;> rfl, hw.below⟩)
      | (have hs : fdOk ws ps xs ys zs (v1, v2, v3) = false := by first | exact fd_no1 (by assumption) | exact fd_no2 h9
         exact ⟨by rw [fdV_no hs, hs] <;> rfl, hw.below⟩)
  · skip
    replace h1 := bnot_f h1
    have hd9 := desk_is (ws := ws) (ps := ps) (xs := xs) (ys := ys) (zs := zs) (by assumption)
    have hd8 := hd9.1
    refine V.skip ?_
    refine VE.then_wp ?_
    refine V.seq ?_
    refine V.region ?_
    refine VL.r (.inl rfl) rfl (by decide) (yr_fieldAddr rfl Try.underlying62 rfl rfl sz57_Desk (by decide) rfl) ?_
    refine VL.q (.inl rfl) rfl (by decide) (yq_load rfl fb57_Desk rfl (by first | exact Sees.root (by assumption) | exact Sees.own (by repeat (first | exact List.mem_cons_self | exact List.mem_append_left _ (by assumption) | apply List.mem_cons_of_mem | apply List.mem_append_right)) | exact Sees.root (hR _ (by omega)) | exact Sees.own (RowsIn.mem (by repeat (first | exact RowsIn.here | exact RowsIn.last | apply RowsIn.there | apply RowsIn.thereS)) _ (by omega)) | exact Sees.own (WRowsIn.mem (by repeat (first | exact WRowsIn.here | exact WRowsIn.last | apply WRowsIn.there | apply WRowsIn.thereS)) _ (by omega))) rfl) ?_
    refine VL.q (.inl rfl) rfl (by decide) (yq_loadS rfl Try.underlying32 sz32_Desk rfl (by first | exact Sees.root (by assumption) | exact Sees.own (by repeat (first | exact List.mem_cons_self | exact List.mem_append_left _ (by assumption) | apply List.mem_cons_of_mem | apply List.mem_append_right)) | exact Sees.root (hR _ (by omega)) | exact Sees.own (RowsIn.mem (by repeat (first | exact RowsIn.here | exact RowsIn.last | apply RowsIn.there | apply RowsIn.thereS)) _ (by omega)) | exact Sees.own (WRowsIn.mem (by repeat (first | exact WRowsIn.here | exact WRowsIn.last | apply WRowsIn.there | apply WRowsIn.thereS)) _ (by omega))) rfl rfl rfl) ?_
    refine VL.q (.inl rfl) rfl (by decide) (yq_callf rfl known142_Desk (.cons rfl (.cons rfl .nil)) (fun w hw => (c_fieldOA (by first | exact Sees.root (by assumption) w hw | exact Sees.own (by repeat (first | exact List.mem_cons_self | exact List.mem_append_left _ (by assumption) | apply List.mem_cons_of_mem | apply List.mem_append_right)) w hw) (by first | exact WRws.root (by assumption) hw | exact WRws.own (by repeat (first | exact WRowsIn.here | exact WRowsIn.last | apply WRowsIn.there | apply WRowsIn.thereS)) hw) (by omega) (by assumption)))) ?_
    refine VL.r (.inl rfl) rfl (by decide) (yr_move rfl rfl) ?_
    refine VL.r (.inl rfl) rfl (by decide) (yr_extract rfl rfl rfl (by nofun)) ?_
    refine VL.r (.inl rfl) rfl (by decide) (yr_extract rfl rfl rfl (by nofun)) ?_
    refine VL.new1 (.inl rfl) rfl (by decide) (yn_alloc rfl zero32_Desk rfl) ?_
    intro b6
    refine VL.s (.inl rfl) rfl (yc_store rfl sz32_Desk rfl rfl (by repeat (first | exact UpdF.here | apply UpdF.there | apply UpdF.thereS)) (.inr ⟨rfl, rfl⟩) rfl (by first | exact Nat.le_of_ble_eq_true rfl | simp) (by decide) rfl) ?_
    rintro ⟨⟩
    refine VL.r (.inl rfl) rfl (by decide) (yr_assign rfl rfl) ?_
    refine VL.nil ?_
    refine VE.then_wp ?_
    refine V.seq ?_
    refine V.seq ?_
    refine V.region ?_
    refine VL.r (.inl rfl) rfl (by decide) (yr_move rfl rfl) ?_
    refine VL.r (.inl rfl) rfl (by decide) (yr_not rfl rfl) ?_
    refine VL.nil ?_
    refine VE.then_wp ?_
    refine V.cond rfl (fun h2 => ?_) (fun h2 => ?_)
    · skip
      replace h2 := bnot_t h2
      have h9 : (fin3 (v1, v2, v3) && fin3 (fieldI ws (v1, v2, v3))) = false := h2
      refine V.seq ?_
      refine V.region ?_
      refine VL.r (.inl rfl) rfl (by decide) (yr_build rfl lay32_Desk rfl .nil (by first | (simp; done) | (simp [vv]; done) | (simp [cn, cn1, cn0]; done)) rfl) ?_
      refine VL.s (.inl rfl) rfl (yc_store rfl sz32_Desk rfl rfl (by repeat (first | exact UpdF.here | apply UpdF.there | apply UpdF.thereS)) (.inr ⟨rfl, rfl⟩) rfl (by first | exact Nat.le_of_ble_eq_true rfl | simp) (by decide) rfl) ?_
      rintro ⟨⟩
      refine VL.r (.inl rfl) rfl (by decide) (yr_assign (u := .bool false) rfl rfl) ?_
      refine VL.nil ?_
      refine VE.then_wp ?_
      refine V.ret ?_
      refine VE.then_ret ?_
      refine retN rfl (.cons (rv_cellS rfl Try.underlying32 sz32_Desk (by first | exact Sees.root (by assumption) | exact Sees.own (by repeat (first | exact List.mem_cons_self | exact List.mem_append_left _ (by assumption) | apply List.mem_cons_of_mem | apply List.mem_append_right)) | exact Sees.root (hR _ (by omega)) | exact Sees.own (RowsIn.mem (by repeat (first | exact RowsIn.here | exact RowsIn.last | apply RowsIn.there | apply RowsIn.thereS)) _ (by omega)) | exact Sees.own (WRowsIn.mem (by repeat (first | exact WRowsIn.here | exact WRowsIn.last | apply WRowsIn.there | apply WRowsIn.thereS)) _ (by omega))) rfl rfl rfl) (.cons (rv_tmp rfl (by nofun)) .nil)) (by nofun) (fun w1 hw => ?_)
      first
        | (have hs : fdOk ws ps xs ys zs (v1, v2, v3) = true := fd_yes (by assumption) h9
           exact ⟨by rw [fdV_yes hs, hs, h9] <;> rfl, hw.below⟩)
        | (have hs : fdOk ws ps xs ys zs (v1, v2, v3) = false := by first | exact fd_no1 (by assumption) | exact fd_no2 h9
           exact ⟨by rw [fdV_no hs, hs] <;> rfl, hw.below⟩)
    · skip
      replace h2 := bnot_f h2
      have h9 : (fin3 (v1, v2, v3) && fin3 (fieldI ws (v1, v2, v3))) = true := h2
      refine V.skip ?_
      refine VE.then_wp ?_
      refine V.seq ?_
      refine Dr.V.drawR [(0, 5), (1, 5), (2, 5), (3, 5), (4, 5), (5, 5), (6, 3), (7, 5)] [] [⟨some ⟨b4, 0, none⟩, [.float .f32 (z3).1, .float .f32 (z3).2.1, .float .f32 (z3).2.2], 3, 32⟩] _ mixed_Desk (by kernel_rfl) (fun w hw => Hp.pickS hw (by apply Pick.one; repeat (first | exact Rem.here | apply Rem.there))) ?_
      refine Dr.SW.p rfl (.inl rfl) rfl (by decide) (yq_loadS rfl Try.underlying32 sz32_Desk rfl (by first | exact Sees.root (by assumption) | exact Sees.own (by (try simp only [List.append_assoc, List.cons_append, List.nil_append]); repeat (first | exact List.mem_cons_self | exact List.mem_append_left _ (by assumption) | apply List.mem_cons_of_mem | apply List.mem_append_right)) | exact Sees.root (hR _ (by omega)) | exact Sees.own (RowsIn.mem (by (try simp only [List.append_assoc, List.cons_append, List.nil_append]); repeat (first | exact RowsIn.here | exact RowsIn.last | apply RowsIn.there | apply RowsIn.thereS)) _ (by omega)) | exact Sees.own (WRowsIn.mem (by (try simp only [List.append_assoc, List.cons_append, List.nil_append]); repeat (first | exact WRowsIn.here | exact WRowsIn.last | apply WRowsIn.there | apply WRowsIn.thereS)) _ (by omega))) rfl rfl rfl) ?_
      refine Dr.SW.r rfl (.inl rfl) rfl (by decide) (yr_fieldAddr rfl Try.underlying62 rfl rfl sz58_Desk (by decide) rfl) ?_
      refine Dr.SW.p rfl (.inl rfl) rfl (by decide) (yq_load rfl fb58_Desk rfl (by first | exact Sees.root (by assumption) | exact Sees.own (by (try simp only [List.append_assoc, List.cons_append, List.nil_append]); repeat (first | exact List.mem_cons_self | exact List.mem_append_left _ (by assumption) | apply List.mem_cons_of_mem | apply List.mem_append_right)) | exact Sees.root (hR _ (by omega)) | exact Sees.own (RowsIn.mem (by (try simp only [List.append_assoc, List.cons_append, List.nil_append]); repeat (first | exact RowsIn.here | exact RowsIn.last | apply RowsIn.there | apply RowsIn.thereS)) _ (by omega)) | exact Sees.own (WRowsIn.mem (by (try simp only [List.append_assoc, List.cons_append, List.nil_append]); repeat (first | exact WRowsIn.here | exact WRowsIn.last | apply WRowsIn.there | apply WRowsIn.thereS)) _ (by omega))) rfl) ?_
      refine Dr.SW.p rfl (.inl rfl) rfl (by decide) (yq_loadS rfl Try.underlying32 sz32_Desk rfl (by first | exact Sees.root (by assumption) | exact Sees.own (by (try simp only [List.append_assoc, List.cons_append, List.nil_append]); repeat (first | exact List.mem_cons_self | exact List.mem_append_left _ (by assumption) | apply List.mem_cons_of_mem | apply List.mem_append_right)) | exact Sees.root (hR _ (by omega)) | exact Sees.own (RowsIn.mem (by (try simp only [List.append_assoc, List.cons_append, List.nil_append]); repeat (first | exact RowsIn.here | exact RowsIn.last | apply RowsIn.there | apply RowsIn.thereS)) _ (by omega)) | exact Sees.own (WRowsIn.mem (by (try simp only [List.append_assoc, List.cons_append, List.nil_append]); repeat (first | exact WRowsIn.here | exact WRowsIn.last | apply WRowsIn.there | apply WRowsIn.thereS)) _ (by omega))) rfl rfl rfl) ?_
      refine Dr.SW.p rfl (.inl rfl) rfl (by decide) (yq_callf rfl known144_Desk (.cons rfl (.cons rfl .nil)) (fun w hw => (c_fieldP (by first | exact Sees.root (by assumption) w hw | exact Sees.own (by (try simp only [List.append_assoc, List.cons_append, List.nil_append]); repeat (first | exact List.mem_cons_self | exact List.mem_append_left _ (by assumption) | apply List.mem_cons_of_mem | apply List.mem_append_right)) w hw) (by omega)))) ?_
      refine Dr.SW.p rfl (.inl rfl) rfl (by decide) (yq_callf rfl known143_Desk (.cons rfl (.cons rfl .nil)) (fun w hw => c_add3)) ?_
      refine Dr.SW.s rfl (.inl rfl) rfl (yc_store rfl sz32_Desk rfl rfl (Dr.UpdF.app (by repeat (first | exact UpdF.here | apply UpdF.there | apply UpdF.thereS))) (.inr ⟨rfl, rfl⟩) rfl (by first | exact Nat.le_of_ble_eq_true rfl | simp) (by decide) rfl) ?_
      rintro ⟨⟩
      refine Dr.SW.r rfl (.inl rfl) rfl (by decide) (yr_assign (u := .bool true) rfl rfl) ?_
      refine Dr.SW.done ?_
      refine Dr.eqO (by simp only [List.append_nil, List.append_assoc, List.cons_append, List.nil_append] <;> rfl) ?_
      refine VE.then_wp ?_
      refine V.ret ?_
      refine retN rfl (.cons (rv_cellS rfl Try.underlying32 sz32_Desk (by first | exact Sees.root (by assumption) | exact Sees.own (by repeat (first | exact List.mem_cons_self | exact List.mem_append_left _ (by assumption) | apply List.mem_cons_of_mem | apply List.mem_append_right)) | exact Sees.root (hR _ (by omega)) | exact Sees.own (RowsIn.mem (by repeat (first | exact RowsIn.here | exact RowsIn.last | apply RowsIn.there | apply RowsIn.thereS)) _ (by omega)) | exact Sees.own (WRowsIn.mem (by repeat (first | exact WRowsIn.here | exact WRowsIn.last | apply WRowsIn.there | apply WRowsIn.thereS)) _ (by omega))) rfl rfl rfl) (.cons (rv_tmp rfl (by nofun)) .nil)) (by nofun) (fun w1 hw => ?_)
      first
        | (have hs : fdOk ws ps xs ys zs (v1, v2, v3) = true := fd_yes (by assumption) h9
           exact ⟨by rw [fdV_yes hs, hs, h9] <;> rfl, hw.below⟩)
        | (have hs : fdOk ws ps xs ys zs (v1, v2, v3) = false := by first | exact fd_no1 (by assumption) | exact fd_no2 h9
           exact ⟨by rw [fdV_no hs, hs] <;> rfl, hw.below⟩)

theorem c_l08Field {w : World} {q : Option Addr} {a : Option Addr} {c : Nat} {f : Nat → Option Addr × Nat} {ws : List Wr} {b : Option Addr} {d : Nat} {ps : List Pl} {a1 a2 a3 : Option Addr} {c1 c2 c3 : Nat} {xs ys zs : List Nat} {v1 v2 v3 : Nat} (hQ : Cl w q [.slice a ws.length c, .slice b ps.length d, .slice a1 xs.length c1, .slice a2 ys.length c2, .slice a3 zs.length c3]) (hA : Cl w a (whd f ws)) (hR : WRws w f ws) (hn : wbulk ws ≤ 1050000) (hB : Cl w b (pl ps)) (hpn : ps.length ≤ 1050000) (hx : Cl w a1 (fl xs)) (hy : Cl w a2 (fl ys)) (hz : Cl w a3 (fl zs)) (hcn : xs.length + ys.length + zs.length ≤ 1050000) (hok : deskOk ws ps xs ys zs = true) : Pure Try.prog 141 [.pointer (some (adr q 0)), vv (v1, v2, v3)] w (.tuple #[vv (fdV ws ps xs ys zs (v1, v2, v3)), .bool (fdOk ws ps xs ys zs (v1, v2, v3))]) := by
  refine Pure.enter Try.func141 rfl Try.ntmps141 (Nat.le_of_ble_eq_true rfl) ?_
  have hwl : ws.length ≤ wbulk ws := by unfold wbulk; omega
  have hrw : ∀ k, k < ws.length → (ws.getD k zw).1.length ≤ 1050000 := fun k hk => by have := wbulk_row hk; omega
  have hd9 := desk_is (ws := ws) (ps := ps) (xs := xs) (ys := ys) (zs := zs) (by assumption)
  have hd8 := hd9.1
  refine V.seq ?_
  refine V.region ?_
  refine VL.new1 (.inl rfl) rfl (by decide) (yn_box rfl rfl (.inr ⟨rfl, rfl⟩)) ?_
  intro b3
  refine VL.new1 (.inl rfl) rfl (by decide) (yn_alloc rfl zero32_Desk rfl) ?_
  intro b4
  refine VL.r (.inl rfl) rfl (by decide) (yr_assign (u := .bool false) rfl rfl) ?_
  refine VL.nil ?_
  refine VE.then_wp ?_
  refine V.seq ?_
  refine V.seq ?_
  refine V.region ?_
  refine VL.q (.inl rfl) rfl (by decide) (yq_loadS rfl Try.underlying32 sz32_Desk rfl (by first | exact Sees.root (by assumption) | exact Sees.own (by repeat (first | exact List.mem_cons_self | exact List.mem_append_left _ (by assumption) | apply List.mem_cons_of_mem | apply List.mem_append_right)) | exact Sees.root (hR _ (by omega)) | exact Sees.own (RowsIn.mem (by repeat (first | exact RowsIn.here | exact RowsIn.last | apply RowsIn.there | apply RowsIn.thereS)) _ (by omega)) | exact Sees.own (WRowsIn.mem (by repeat (first | exact WRowsIn.here | exact WRowsIn.last | apply WRowsIn.there | apply WRowsIn.thereS)) _ (by omega))) rfl rfl rfl) ?_
  refine VL.q (.inl rfl) rfl (by decide) (yq_callf rfl known117_Desk (.cons rfl .nil) (fun w hw => c_fin3S)) ?_
  refine VL.r (.inl rfl) rfl (by decide) (yr_not rfl rfl) ?_
  refine VL.nil ?_
  refine VE.then_wp ?_
  refine V.cond rfl (fun h1 => ?_) (fun h1 => ?_)
  · skip
    replace h1 := bnot_t h1
    have h9 : (fin3 (v1, v2, v3) && fin3 (fieldI ws (v1, v2, v3))) = false := by rw [show fin3 (v1, v2, v3) = false from h1]; rfl
    refine V.seq ?_
    refine V.region ?_
    refine VL.r (.inl rfl) rfl (by decide) (yr_build rfl lay32_Desk rfl .nil (by first | (simp; done) | (simp [vv]; done) | (simp [cn, cn1, cn0]; done)) rfl) ?_
    refine VL.s (.inl rfl) rfl (yc_store rfl sz32_Desk rfl rfl (by repeat (first | exact UpdF.here | apply UpdF.there | apply UpdF.thereS)) (.inr ⟨rfl, rfl⟩) rfl (by first | exact Nat.le_of_ble_eq_true rfl | simp) (by decide) rfl) ?_
    rintro ⟨⟩
    refine VL.r (.inl rfl) rfl (by decide) (yr_assign (u := .bool false) rfl rfl) ?_
    refine VL.nil ?_
    refine VE.then_wp ?_
    refine V.ret ?_
    refine VE.then_ret ?_
    refine retN rfl (.cons (rv_cellS rfl Try.underlying32 sz32_Desk (by first | exact Sees.root (by assumption) | exact Sees.own (by repeat (first | exact List.mem_cons_self | exact List.mem_append_left _ (by assumption) | apply List.mem_cons_of_mem | apply List.mem_append_right)) | exact Sees.root (hR _ (by omega)) | exact Sees.own (RowsIn.mem (by repeat (first | exact RowsIn.here | exact RowsIn.last | apply RowsIn.there | apply RowsIn.thereS)) _ (by omega)) | exact Sees.own (WRowsIn.mem (by repeat (first | exact WRowsIn.here | exact WRowsIn.last | apply WRowsIn.there | apply WRowsIn.thereS)) _ (by omega))) rfl rfl rfl) (.cons (rv_tmp rfl (by nofun)) .nil)) (by nofun) (fun w1 hw => ?_)
    first
      | (have hs : fdOk ws ps xs ys zs (v1, v2, v3) = true := fd_yes (by assumption) h9
         exact ⟨by rw [fdV_yes hs, hs, ← fieldS_fin hpf] <;> rfl, hw.below⟩)
      | (have hs : fdOk ws ps xs ys zs (v1, v2, v3) = false := by first | exact fd_no1 (by assumption) | exact fd_no2 h9
         exact ⟨by rw [fdV_no hs, hs] <;> rfl, hw.below⟩)
  · skip
    replace h1 := bnot_f h1
    refine V.skip ?_
    refine VE.then_wp ?_
    refine V.seq ?_
    refine Dr.V.drawR [(0, 5), (1, 5), (2, 5), (3, 5), (4, 5), (5, 5), (6, 2), (7, 3)] [(6, ((fun b => .pointer (some (adr (some ⟨b, 0, none⟩) 0))), (fun b => ⟨some ⟨b, 0, none⟩, [Value.float .f32 0, Value.float .f32 0, Value.float .f32 0], 3, 32⟩)))] [] _ mixed_Desk (by kernel_rfl) (fun w hw => hw) ?_
    refine Dr.SW.r rfl (.inl rfl) rfl (by decide) (yr_move rfl rfl) ?_
    refine Dr.SW.r rfl (.inl rfl) rfl (by decide) (yr_nilCheck rfl rfl) ?_
    refine Dr.SW.r rfl (.inl rfl) rfl (by decide) (yr_fieldAddr rfl Try.underlying62 rfl rfl sz57_Desk (by decide) rfl) ?_
    refine Dr.SW.p rfl (.inl rfl) rfl (by decide) (yq_load rfl fb57_Desk rfl (by first | exact Sees.root (by assumption) | exact Sees.own (by (try simp only [List.append_assoc, List.cons_append, List.nil_append]); repeat (first | exact List.mem_cons_self | exact List.mem_append_left _ (by assumption) | apply List.mem_cons_of_mem | apply List.mem_append_right)) | exact Sees.root (hR _ (by omega)) | exact Sees.own (RowsIn.mem (by (try simp only [List.append_assoc, List.cons_append, List.nil_append]); repeat (first | exact RowsIn.here | exact RowsIn.last | apply RowsIn.there | apply RowsIn.thereS)) _ (by omega)) | exact Sees.own (WRowsIn.mem (by (try simp only [List.append_assoc, List.cons_append, List.nil_append]); repeat (first | exact WRowsIn.here | exact WRowsIn.last | apply WRowsIn.there | apply WRowsIn.thereS)) _ (by omega))) rfl) ?_
    refine Dr.SW.p rfl (.inl rfl) rfl (by decide) (yq_loadS rfl Try.underlying32 sz32_Desk rfl (by first | exact Sees.root (by assumption) | exact Sees.own (by (try simp only [List.append_assoc, List.cons_append, List.nil_append]); repeat (first | exact List.mem_cons_self | exact List.mem_append_left _ (by assumption) | apply List.mem_cons_of_mem | apply List.mem_append_right)) | exact Sees.root (hR _ (by omega)) | exact Sees.own (RowsIn.mem (by (try simp only [List.append_assoc, List.cons_append, List.nil_append]); repeat (first | exact RowsIn.here | exact RowsIn.last | apply RowsIn.there | apply RowsIn.thereS)) _ (by omega)) | exact Sees.own (WRowsIn.mem (by (try simp only [List.append_assoc, List.cons_append, List.nil_append]); repeat (first | exact WRowsIn.here | exact WRowsIn.last | apply WRowsIn.there | apply WRowsIn.thereS)) _ (by omega))) rfl rfl rfl) ?_
    refine Dr.SW.p rfl (.inl rfl) rfl (by decide) (yq_callf rfl known121_Desk (.cons rfl (.cons rfl .nil)) (fun w hw => (c_l02All (by first | exact Sees.root (by assumption) w hw | exact Sees.own (by (try simp only [List.append_assoc, List.cons_append, List.nil_append]); repeat (first | exact List.mem_cons_self | exact List.mem_append_left _ (by assumption) | apply List.mem_cons_of_mem | apply List.mem_append_right)) w hw) (by first | exact WRws.root (by assumption) hw | exact WRws.own (by (try simp only [List.append_assoc, List.cons_append, List.nil_append]); repeat (first | exact WRowsIn.here | exact WRowsIn.last | apply WRowsIn.there | apply WRowsIn.thereS)) hw) (by omega) (by assumption)))) ?_
    refine Dr.SW.a rfl rfl rfl (by decide) rfl (fun w0 => (yn_alloc rfl zero32_Desk rfl)) ?_
    intro b6
    refine Dr.SW.s rfl (.inl rfl) rfl (yc_store rfl sz32_Desk rfl rfl (Dr.UpdF.app (by repeat (first | exact UpdF.here | apply UpdF.there | apply UpdF.thereS))) (.inr ⟨rfl, rfl⟩) rfl (by first | exact Nat.le_of_ble_eq_true rfl | simp) (by decide) rfl) ?_
    rintro ⟨⟩
    refine Dr.SW.done ?_
    refine Dr.eqO (by simp only [List.append_nil, List.append_assoc, List.cons_append, List.nil_append] <;> rfl) ?_
    refine VE.then_wp ?_
    refine V.seq ?_
    refine V.seq ?_
    refine V.region ?_
    refine VL.q (.inl rfl) rfl (by decide) (yq_loadS rfl Try.underlying32 sz32_Desk rfl (by first | exact Sees.root (by assumption) | exact Sees.own (by repeat (first | exact List.mem_cons_self | exact List.mem_append_left _ (by assumption) | apply List.mem_cons_of_mem | apply List.mem_append_right)) | exact Sees.root (hR _ (by omega)) | exact Sees.own (RowsIn.mem (by repeat (first | exact RowsIn.here | exact RowsIn.last | apply RowsIn.there | apply RowsIn.thereS)) _ (by omega)) | exact Sees.own (WRowsIn.mem (by repeat (first | exact WRowsIn.here | exact WRowsIn.last | apply WRowsIn.there | apply WRowsIn.thereS)) _ (by omega))) rfl rfl rfl) ?_
    refine VL.q (.inl rfl) rfl (by decide) (yq_callf rfl known117_Desk (.cons rfl .nil) (fun w hw => c_fin3S)) ?_
    refine VL.r (.inl rfl) rfl (by decide) (yr_not rfl rfl) ?_
    refine VL.nil ?_
    refine VE.then_wp ?_
    refine V.cond rfl (fun h2 => ?_) (fun h2 => ?_)
    · skip
      replace h2 := bnot_t h2
      have h9 : (fin3 (v1, v2, v3) && fin3 (fieldI ws (v1, v2, v3))) = false := by rw [← fieldS_ok]; exact h2
      refine V.seq ?_
      refine V.region ?_
      refine VL.r (.inl rfl) rfl (by decide) (yr_build rfl lay32_Desk rfl .nil (by first | (simp; done) | (simp [vv]; done) | (simp [cn, cn1, cn0]; done)) rfl) ?_
      refine VL.s (.inl rfl) rfl (yc_store rfl sz32_Desk rfl rfl (by repeat (first | exact UpdF.here | apply UpdF.there | apply UpdF.thereS)) (.inr ⟨rfl, rfl⟩) rfl (by first | exact Nat.le_of_ble_eq_true rfl | simp) (by decide) rfl) ?_
      rintro ⟨⟩
      refine VL.r (.inl rfl) rfl (by decide) (yr_assign (u := .bool false) rfl rfl) ?_
      refine VL.nil ?_
      refine VE.then_wp ?_
      refine V.ret ?_
      refine VE.then_ret ?_
      refine retN rfl (.cons (rv_cellS rfl Try.underlying32 sz32_Desk (by first | exact Sees.root (by assumption) | exact Sees.own (by repeat (first | exact List.mem_cons_self | exact List.mem_append_left _ (by assumption) | apply List.mem_cons_of_mem | apply List.mem_append_right)) | exact Sees.root (hR _ (by omega)) | exact Sees.own (RowsIn.mem (by repeat (first | exact RowsIn.here | exact RowsIn.last | apply RowsIn.there | apply RowsIn.thereS)) _ (by omega)) | exact Sees.own (WRowsIn.mem (by repeat (first | exact WRowsIn.here | exact WRowsIn.last | apply WRowsIn.there | apply WRowsIn.thereS)) _ (by omega))) rfl rfl rfl) (.cons (rv_tmp rfl (by nofun)) .nil)) (by nofun) (fun w1 hw => ?_)
      first
        | (have hs : fdOk ws ps xs ys zs (v1, v2, v3) = true := fd_yes (by assumption) h9
           exact ⟨by rw [fdV_yes hs, hs, ← fieldS_fin hpf] <;> rfl, hw.below⟩)
        | (have hs : fdOk ws ps xs ys zs (v1, v2, v3) = false := by first | exact fd_no1 (by assumption) | exact fd_no2 h9
           exact ⟨by rw [fdV_no hs, hs] <;> rfl, hw.below⟩)
    · skip
      replace h2 := bnot_f h2
      have h9 : (fin3 (v1, v2, v3) && fin3 (fieldI ws (v1, v2, v3))) = true := by rw [← fieldS_ok]; exact h2
      have hpf : fin3 (v1, v2, v3) = true := by assumption
      refine V.skip ?_
      refine VE.then_wp ?_
      refine V.seq ?_
      refine Dr.V.drawR [(0, 5), (1, 5), (2, 5), (3, 5), (4, 5), (5, 5), (6, 5), (7, 5), (8, 3), (9, 5)] [] [⟨some ⟨b4, 0, none⟩, [.float .f32 (z3).1, .float .f32 (z3).2.1, .float .f32 (z3).2.2], 3, 32⟩] _ mixed_Desk (by kernel_rfl) (fun w hw => Hp.pickS hw (by apply Pick.one; repeat (first | exact Rem.here | apply Rem.there))) ?_
      refine Dr.SW.p rfl (.inl rfl) rfl (by decide) (yq_loadS rfl Try.underlying32 sz32_Desk rfl (by first | exact Sees.root (by assumption) | exact Sees.own (by (try simp only [List.append_assoc, List.cons_append, List.nil_append]); repeat (first | exact List.mem_cons_self | exact List.mem_append_left _ (by assumption) | apply List.mem_cons_of_mem | apply List.mem_append_right)) | exact Sees.root (hR _ (by omega)) | exact Sees.own (RowsIn.mem (by (try simp only [List.append_assoc, List.cons_append, List.nil_append]); repeat (first | exact RowsIn.here | exact RowsIn.last | apply RowsIn.there | apply RowsIn.thereS)) _ (by omega)) | exact Sees.own (WRowsIn.mem (by (try simp only [List.append_assoc, List.cons_append, List.nil_append]); repeat (first | exact WRowsIn.here | exact WRowsIn.last | apply WRowsIn.there | apply WRowsIn.thereS)) _ (by omega))) rfl rfl rfl) ?_
      refine Dr.SW.r rfl (.inl rfl) rfl (by decide) (yr_move rfl rfl) ?_
      refine Dr.SW.r rfl (.inl rfl) rfl (by decide) (yr_nilCheck rfl rfl) ?_
      refine Dr.SW.r rfl (.inl rfl) rfl (by decide) (yr_fieldAddr rfl Try.underlying62 rfl rfl sz58_Desk (by decide) rfl) ?_
      refine Dr.SW.p rfl (.inl rfl) rfl (by decide) (yq_load rfl fb58_Desk rfl (by first | exact Sees.root (by assumption) | exact Sees.own (by (try simp only [List.append_assoc, List.cons_append, List.nil_append]); repeat (first | exact List.mem_cons_self | exact List.mem_append_left _ (by assumption) | apply List.mem_cons_of_mem | apply List.mem_append_right)) | exact Sees.root (hR _ (by omega)) | exact Sees.own (RowsIn.mem (by (try simp only [List.append_assoc, List.cons_append, List.nil_append]); repeat (first | exact RowsIn.here | exact RowsIn.last | apply RowsIn.there | apply RowsIn.thereS)) _ (by omega)) | exact Sees.own (WRowsIn.mem (by (try simp only [List.append_assoc, List.cons_append, List.nil_append]); repeat (first | exact WRowsIn.here | exact WRowsIn.last | apply WRowsIn.there | apply WRowsIn.thereS)) _ (by omega))) rfl) ?_
      refine Dr.SW.p rfl (.inl rfl) rfl (by decide) (yq_loadS rfl Try.underlying32 sz32_Desk rfl (by first | exact Sees.root (by assumption) | exact Sees.own (by (try simp only [List.append_assoc, List.cons_append, List.nil_append]); repeat (first | exact List.mem_cons_self | exact List.mem_append_left _ (by assumption) | apply List.mem_cons_of_mem | apply List.mem_append_right)) | exact Sees.root (hR _ (by omega)) | exact Sees.own (RowsIn.mem (by (try simp only [List.append_assoc, List.cons_append, List.nil_append]); repeat (first | exact RowsIn.here | exact RowsIn.last | apply RowsIn.there | apply RowsIn.thereS)) _ (by omega)) | exact Sees.own (WRowsIn.mem (by (try simp only [List.append_assoc, List.cons_append, List.nil_append]); repeat (first | exact WRowsIn.here | exact WRowsIn.last | apply WRowsIn.there | apply WRowsIn.thereS)) _ (by omega))) rfl rfl rfl) ?_
      refine Dr.SW.p rfl (.inl rfl) rfl (by decide) (yq_callf rfl known193_Desk (.cons rfl (.cons rfl .nil)) (fun w hw => (c_l05Fields (by first | exact Sees.root (by assumption) w hw | exact Sees.own (by (try simp only [List.append_assoc, List.cons_append, List.nil_append]); repeat (first | exact List.mem_cons_self | exact List.mem_append_left _ (by assumption) | apply List.mem_cons_of_mem | apply List.mem_append_right)) w hw) (by omega)))) ?_
      refine Dr.SW.p rfl (.inl rfl) rfl (by decide) (yq_callf rfl known179_Desk (.cons rfl (.cons rfl .nil)) (fun w hw => c_add3S)) ?_
      refine Dr.SW.s rfl (.inl rfl) rfl (yc_store rfl sz32_Desk rfl rfl (Dr.UpdF.app (by repeat (first | exact UpdF.here | apply UpdF.there | apply UpdF.thereS))) (.inr ⟨rfl, rfl⟩) rfl (by first | exact Nat.le_of_ble_eq_true rfl | simp) (by decide) rfl) ?_
      rintro ⟨⟩
      refine Dr.SW.r rfl (.inl rfl) rfl (by decide) (yr_assign (u := .bool true) rfl rfl) ?_
      refine Dr.SW.done ?_
      refine Dr.eqO (by simp only [List.append_nil, List.append_assoc, List.cons_append, List.nil_append] <;> rfl) ?_
      refine VE.then_wp ?_
      refine V.ret ?_
      refine retN rfl (.cons (rv_cellS rfl Try.underlying32 sz32_Desk (by first | exact Sees.root (by assumption) | exact Sees.own (by repeat (first | exact List.mem_cons_self | exact List.mem_append_left _ (by assumption) | apply List.mem_cons_of_mem | apply List.mem_append_right)) | exact Sees.root (hR _ (by omega)) | exact Sees.own (RowsIn.mem (by repeat (first | exact RowsIn.here | exact RowsIn.last | apply RowsIn.there | apply RowsIn.thereS)) _ (by omega)) | exact Sees.own (WRowsIn.mem (by repeat (first | exact WRowsIn.here | exact WRowsIn.last | apply WRowsIn.there | apply WRowsIn.thereS)) _ (by omega))) rfl rfl rfl) (.cons (rv_tmp rfl (by nofun)) .nil)) (by nofun) (fun w1 hw => ?_)
      first
        | (have hs : fdOk ws ps xs ys zs (v1, v2, v3) = true := fd_yes (by assumption) h9
           exact ⟨by rw [fdV_yes hs, hs, ← fieldS_fin hpf] <;> rfl, hw.below⟩)
        | (have hs : fdOk ws ps xs ys zs (v1, v2, v3) = false := by first | exact fd_no1 (by assumption) | exact fd_no2 h9
           exact ⟨by rw [fdV_no hs, hs] <;> rfl, hw.below⟩)

theorem c_specFD {w : World} {a : Option Addr} {c : Nat} {f : Nat → Option Addr × Nat} {ws : List Wr} {b : Option Addr} {d : Nat} {ps : List Pl} {a1 a2 a3 : Option Addr} {c1 c2 c3 : Nat} {xs ys zs : List Nat} {v1 v2 v3 : Nat} (hA : Cl w a (whd f ws)) (hR : WRws w f ws) (hn : wbulk ws ≤ 1050000) (hB : Cl w b (pl ps)) (hpn : ps.length ≤ 1050000) (hx : Cl w a1 (fl xs)) (hy : Cl w a2 (fl ys)) (hz : Cl w a3 (fl zs)) (hcn : xs.length + ys.length + zs.length ≤ 1050000) : Pure Try.prog 54 [.agg #[.slice a ws.length c, .slice b ps.length d, .slice a1 xs.length c1, .slice a2 ys.length c2, .slice a3 zs.length c3], vv (v1, v2, v3)] w (.tuple #[vv (fdV ws ps xs ys zs (v1, v2, v3)), .bool (fdOk ws ps xs ys zs (v1, v2, v3))]) := by
  refine Pure.enter Try.func54 rfl Try.ntmps54 (Nat.le_of_ble_eq_true rfl) ?_
  have hwl : ws.length ≤ wbulk ws := by unfold wbulk; omega
  have hrw : ∀ k, k < ws.length → (ws.getD k zw).1.length ≤ 1050000 := fun k hk => by have := wbulk_row hk; omega
  refine V.seq ?_
  refine V.region ?_
  refine VL.new1 (.inl rfl) rfl (by decide) (yn_box rfl rfl (.inr ⟨rfl, rfl⟩)) ?_
  intro b2
  refine VL.new1 (.inl rfl) rfl (by decide) (yn_box rfl rfl (.inr ⟨rfl, rfl⟩)) ?_
  intro b3
  refine VL.new1 (.inl rfl) rfl (by decide) (yn_alloc rfl zero32_Desk rfl) ?_
  intro b4
  refine VL.r (.inl rfl) rfl (by decide) (yr_assign (u := .bool false) rfl rfl) ?_
  refine VL.nil ?_
  refine VE.then_wp ?_
  refine V.seq ?_
  refine V.seq ?_
  refine V.region ?_
  refine VL.q (.inl rfl) rfl (by decide) (yq_callf rfl known109_Desk (.cons rfl .nil) (fun w hw => (c_l08Is (by first | exact Sees.root (by assumption) w hw | exact Sees.own (by repeat (first | exact List.mem_cons_self | exact List.mem_append_left _ (by assumption) | apply List.mem_cons_of_mem | apply List.mem_append_right)) w hw) (by first | exact Sees.root (by assumption) w hw | exact Sees.own (by repeat (first | exact List.mem_cons_self | exact List.mem_append_left _ (by assumption) | apply List.mem_cons_of_mem | apply List.mem_append_right)) w hw) (by first | exact WRws.root (by assumption) hw | exact WRws.own (by repeat (first | exact WRowsIn.here | exact WRowsIn.last | apply WRowsIn.there | apply WRowsIn.thereS)) hw) (by omega) (by first | exact Sees.root (by assumption) w hw | exact Sees.own (by repeat (first | exact List.mem_cons_self | exact List.mem_append_left _ (by assumption) | apply List.mem_cons_of_mem | apply List.mem_append_right)) w hw) (by omega) (by first | exact Sees.root (by assumption) w hw | exact Sees.own (by repeat (first | exact List.mem_cons_self | exact List.mem_append_left _ (by assumption) | apply List.mem_cons_of_mem | apply List.mem_append_right)) w hw) (by first | exact Sees.root (by assumption) w hw | exact Sees.own (by repeat (first | exact List.mem_cons_self | exact List.mem_append_left _ (by assumption) | apply List.mem_cons_of_mem | apply List.mem_append_right)) w hw) (by first | exact Sees.root (by assumption) w hw | exact Sees.own (by repeat (first | exact List.mem_cons_self | exact List.mem_append_left _ (by assumption) | apply List.mem_cons_of_mem | apply List.mem_append_right)) w hw) (by omega)))) ?_
  refine VL.r (.inl rfl) rfl (by decide) (yr_not rfl rfl) ?_
  refine VL.nil ?_
  refine VE.then_wp ?_
  refine V.cond rfl (fun h1 => ?_) (fun h1 => ?_)
  · skip
    replace h1 := bnot_t h1
    refine V.seq ?_
    refine V.region ?_
    refine VL.r (.inl rfl) rfl (by decide) (yr_build rfl lay32_Desk rfl .nil (by first | (simp; done) | (simp [vv]; done) | (simp [cn, cn1, cn0]; done)) rfl) ?_
    refine VL.s (.inl rfl) rfl (yc_store rfl sz32_Desk rfl rfl (by repeat (first | exact UpdF.here | apply UpdF.there | apply UpdF.thereS)) (.inr ⟨rfl, rfl⟩) rfl (by first | exact Nat.le_of_ble_eq_true rfl | simp) (by decide) rfl) ?_
    rintro ⟨⟩
    refine VL.r (.inl rfl) rfl (by decide) (yr_assign (u := .bool false) rfl rfl) ?_
    refine VL.nil ?_
    refine VE.then_wp ?_
    refine V.ret ?_
    refine VE.then_ret ?_
    refine retN rfl (.cons (rv_cellS rfl Try.underlying32 sz32_Desk (by first | exact Sees.root (by assumption) | exact Sees.own (by repeat (first | exact List.mem_cons_self | exact List.mem_append_left _ (by assumption) | apply List.mem_cons_of_mem | apply List.mem_append_right)) | exact Sees.root (hR _ (by omega)) | exact Sees.own (RowsIn.mem (by repeat (first | exact RowsIn.here | exact RowsIn.last | apply RowsIn.there | apply RowsIn.thereS)) _ (by omega)) | exact Sees.own (WRowsIn.mem (by repeat (first | exact WRowsIn.here | exact WRowsIn.last | apply WRowsIn.there | apply WRowsIn.thereS)) _ (by omega))) rfl rfl rfl) (.cons (rv_tmp rfl (by nofun)) .nil)) (by nofun) (fun w1 hw => ?_)
    first
      | exact ⟨rfl, hw.below⟩
      | (have hs : fdOk ws ps xs ys zs (v1, v2, v3) = false := fd_no1 (by assumption)
         exact ⟨by rw [fdV_no hs, hs] <;> rfl, hw.below⟩)
  · skip
    replace h1 := bnot_f h1
    refine V.skip ?_
    refine VE.then_wp ?_
    refine V.seq ?_
    refine V.region ?_
    refine VL.q (.inl rfl) rfl (by decide) (yq_loadS rfl Try.underlying32 sz32_Desk rfl (by first | exact Sees.root (by assumption) | exact Sees.own (by repeat (first | exact List.mem_cons_self | exact List.mem_append_left _ (by assumption) | apply List.mem_cons_of_mem | apply List.mem_append_right)) | exact Sees.root (hR _ (by omega)) | exact Sees.own (RowsIn.mem (by repeat (first | exact RowsIn.here | exact RowsIn.last | apply RowsIn.there | apply RowsIn.thereS)) _ (by omega)) | exact Sees.own (WRowsIn.mem (by repeat (first | exact WRowsIn.here | exact WRowsIn.last | apply WRowsIn.there | apply WRowsIn.thereS)) _ (by omega))) rfl rfl rfl) ?_
    refine VL.q (.inl rfl) rfl (by decide) (yq_callf rfl known141_Desk (.cons rfl (.cons rfl .nil)) (fun w hw => (c_l08Field (by first | exact Sees.root (by assumption) w hw | exact Sees.own (by repeat (first | exact List.mem_cons_self | exact List.mem_append_left _ (by assumption) | apply List.mem_cons_of_mem | apply List.mem_append_right)) w hw) (by first | exact Sees.root (by assumption) w hw | exact Sees.own (by repeat (first | exact List.mem_cons_self | exact List.mem_append_left _ (by assumption) | apply List.mem_cons_of_mem | apply List.mem_append_right)) w hw) (by first | exact WRws.root (by assumption) hw | exact WRws.own (by repeat (first | exact WRowsIn.here | exact WRowsIn.last | apply WRowsIn.there | apply WRowsIn.thereS)) hw) (by omega) (by first | exact Sees.root (by assumption) w hw | exact Sees.own (by repeat (first | exact List.mem_cons_self | exact List.mem_append_left _ (by assumption) | apply List.mem_cons_of_mem | apply List.mem_append_right)) w hw) (by omega) (by first | exact Sees.root (by assumption) w hw | exact Sees.own (by repeat (first | exact List.mem_cons_self | exact List.mem_append_left _ (by assumption) | apply List.mem_cons_of_mem | apply List.mem_append_right)) w hw) (by first | exact Sees.root (by assumption) w hw | exact Sees.own (by repeat (first | exact List.mem_cons_self | exact List.mem_append_left _ (by assumption) | apply List.mem_cons_of_mem | apply List.mem_append_right)) w hw) (by first | exact Sees.root (by assumption) w hw | exact Sees.own (by repeat (first | exact List.mem_cons_self | exact List.mem_append_left _ (by assumption) | apply List.mem_cons_of_mem | apply List.mem_append_right)) w hw) (by omega) (by assumption)))) ?_
    refine VL.r (.inl rfl) rfl (by decide) (yr_extract rfl rfl rfl (by nofun)) ?_
    refine VL.r (.inl rfl) rfl (by decide) (yr_extract rfl rfl rfl (by nofun)) ?_
    refine VL.s (.inl rfl) rfl (yc_store rfl sz32_Desk rfl rfl (by repeat (first | exact UpdF.here | apply UpdF.there | apply UpdF.thereS)) (.inr ⟨rfl, rfl⟩) rfl (by first | exact Nat.le_of_ble_eq_true rfl | simp) (by decide) rfl) ?_
    rintro ⟨⟩
    refine VL.r (.inl rfl) rfl (by decide) (yr_assign rfl rfl) ?_
    refine VL.nil ?_
    refine VE.then_wp ?_
    refine V.ret ?_
    refine retN rfl (.cons (rv_cellS rfl Try.underlying32 sz32_Desk (by first | exact Sees.root (by assumption) | exact Sees.own (by repeat (first | exact List.mem_cons_self | exact List.mem_append_left _ (by assumption) | apply List.mem_cons_of_mem | apply List.mem_append_right)) | exact Sees.root (hR _ (by omega)) | exact Sees.own (RowsIn.mem (by repeat (first | exact RowsIn.here | exact RowsIn.last | apply RowsIn.there | apply RowsIn.thereS)) _ (by omega)) | exact Sees.own (WRowsIn.mem (by repeat (first | exact WRowsIn.here | exact WRowsIn.last | apply WRowsIn.there | apply WRowsIn.thereS)) _ (by omega))) rfl rfl rfl) (.cons (rv_tmp rfl (by nofun)) .nil)) (by nofun) (fun w1 hw => ?_)
    first
      | exact ⟨rfl, hw.below⟩
      | (have hs : fdOk ws ps xs ys zs (v1, v2, v3) = false := fd_no1 (by assumption)
         exact ⟨by rw [fdV_no hs, hs] <;> rfl, hw.below⟩)

end Go.Proofs.Ytacjcomjnabmhaa
