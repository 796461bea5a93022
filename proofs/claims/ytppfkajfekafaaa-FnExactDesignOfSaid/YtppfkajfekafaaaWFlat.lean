/- Walks: Flat. Printed by gen.py. -/
import Derived.Test.YtppfkajfekafaaaWWLaw
import Derived.Test.YtppfkajfekafaaaWField
import Derived.Test.YtppfkajfekafaaaWDesign
import Derived.Test.YtppfkajfekafaaaFlat
import Derived.Test.YtppfkajfekafaaaBits
import Derived.KernelRfl
namespace Go.Proofs.Ytppfkajfekafaaa
open Go.RowKit
set_option linter.unusedVariables false
set_option linter.unusedSimpArgs false
set_option maxRecDepth 20000

theorem sz122_Flat : (Try.prog.info? 122).map (·.size) = some 3 := by kernel_rfl
theorem known152_Flat : Known Try.prog 152 := Known.mk' Try.func152 (by kernel_rfl)
theorem sz53_Flat : (Try.prog.info? 53).map (·.size) = some 3 := by kernel_rfl
theorem known84_Flat : Known Try.prog 84 := Known.mk' Try.func84 (by kernel_rfl)
theorem known154_Flat : Known Try.prog 154 := Known.mk' Try.func154 (by kernel_rfl)
theorem known76_Flat : Known Try.prog 76 := Known.mk' Try.func76 (by kernel_rfl)
theorem known155_Flat : Known Try.prog 155 := Known.mk' Try.func155 (by kernel_rfl)
theorem known156_Flat : Known Try.prog 156 := Known.mk' Try.func156 (by kernel_rfl)
theorem zero53_Flat : (Try.prog.info? 53).bind (·.zero) = some (Value.agg #[Value.float .f32 0, Value.float .f32 0, Value.float .f32 0]) := by kernel_rfl
theorem known127_Flat : Known Try.prog 127 := Known.mk' Try.func127 (by kernel_rfl)
theorem lay53_Flat : Lay Try.prog 53 [Value.float .f32 0, Value.float .f32 0, Value.float .f32 0] [(0, 1), (1, 1), (2, 1)] := Lay.mk' (by kernel_rfl) (by kernel_rfl)
theorem mixed_Flat : Try.prog.follows .mixedOrders = true := by kernel_rfl
theorem known107_Flat : Known Try.prog 107 := Known.mk' Try.func107 (by kernel_rfl)
theorem known153_Flat : Known Try.prog 153 := Known.mk' Try.func153 (by kernel_rfl)
attribute [local irreducible] fop fcmp fconv sqrt32 fneg segF fieldS fieldI List.getD

theorem c_l07Wires {w : World} {a : Option Addr} {c : Nat} {f : Nat → Option Addr × Nat} {ws : List Wr} (hA : Cl w a (whd f ws)) (hR : WRws w f ws) (hn : wbulk ws ≤ 1050000) : Pure Try.prog 80 [.slice a ws.length c] w (.bool (dwOk ws)) := by
  refine Pure.enter Try.func80 rfl Try.ntmps80 (Nat.le_of_ble_eq_true rfl) ?_
  have hwl : ws.length ≤ wbulk ws := by unfold wbulk; omega
  have hrw : ∀ k, k < ws.length → (ws.getD k zw).1.length ≤ 1050000 := fun k hk => by have := wbulk_row hk; omega
  refine V.seq ?_
  refine V.region ?_
  refine VL.r (.inl rfl) rfl (by decide) (yr_assign (u := .bool false) rfl rfl) ?_
  refine VL.nil ?_
  refine VE.then_wp ?_
  refine V.seq ?_
  refine V.seq ?_
  refine V.region ?_
  refine VL.r (.inl rfl) rfl (by decide) (yr_move rfl rfl) ?_
  refine VL.r (.inl rfl) rfl (by decide) (yr_len rfl Try.underlying22 rfl) ?_
  refine VL.r (.inl rfl) rfl (by decide) (yr_move (u := .int .i64 0) rfl rfl) ?_
  refine VL.nil ?_
  refine VE.then_wp ?_
  refine V.block ?_
  refine V.loops (G := Nat) [(0, _), (5, _)] (fun (k : Nat) => k ≤ ws.length ∧ ∀ j, j < k → wireOk (ws.getD j zw) = true) (fun (k : Nat) => [(6, .int .i64 (k : Int))]) (fun (k : Nat) => ws.length - k) 0 (.cons rfl (.cons rfl .nil)) (.cons rfl .nil) ?_ ?_
  · exact (by exact ⟨by omega, fun j h => by omega⟩)
  rintro k ⟨hk, hI⟩
  show V _ _ _ _ ([(6, .int .i64 (k : Int))] ++ [(0, _), (5, _)]) _ _
  refine V.seq ?_
  refine V.region ?_
  refine VL.r (.inl rfl) rfl (by decide) (yr_icmp rfl (.inr (.inr (.inl rfl))) rfl rfl) ?_
  refine VL.nil ?_
  refine VE.then_wp ?_
  refine V.seq ?_
  refine V.cond rfl (fun h1 => ?_) (fun h1 => ?_)
  · skip
    replace h1 := ic_lss h1
    refine V.skip ?_
    refine VE.then_wp ?_
    refine V.seq ?_
    refine V.block ?_
    refine V.seq ?_
    refine V.region ?_
    refine VL.r (.inl rfl) rfl (by decide) (yr_move rfl rfl) ?_
    refine VL.r (.inl rfl) rfl (by decide) (yr_assign rfl rfl) ?_
    refine VL.nil ?_
    refine VE.then_wp ?_
    refine V.seq ?_
    refine V.region ?_
    refine VL.r (.inl rfl) rfl (by decide) (yr_move rfl rfl) ?_
    refine VL.r (.inl rfl) rfl (by decide) (yr_move rfl rfl) ?_
    refine VL.q (.inl rfl) rfl (by decide) (yq_idxN (k := k) rfl Try.underlying22 sz122_Flat rfl rfl (by first | exact Sees.root (by assumption) | exact Sees.own (by repeat (first | exact List.mem_cons_self | exact List.mem_append_left _ (by assumption) | apply List.mem_cons_of_mem | apply List.mem_append_right)) | exact Sees.root (hR _ (by omega)) | exact Sees.own (RowsIn.mem (by repeat (first | exact RowsIn.here | exact RowsIn.last | apply RowsIn.there | apply RowsIn.thereS)) _ (by omega)) | exact Sees.own (WRowsIn.mem (by repeat (first | exact WRowsIn.here | exact WRowsIn.last | apply WRowsIn.there | apply WRowsIn.thereS)) _ (by omega))) (by first | rfl | omega | (push_cast; rfl) | (push_cast; omega) | exact tmod_nat _ _) (by exact whd_length _ _) (by decide) (by omega)) ?_
    refine VL.q (.inl rfl) rfl (by decide) (yq_callf rfl known152_Flat (.cons rfl .nil) (fun w hw => (c_l02Is (all := whd f ws) (o := k * 3) (ps := (ws.getD k zw).1) (cl := (ws.getD k zw).2.1) (cur := (ws.getD k zw).2.2) (by first | exact Sees.root (by assumption) w hw | exact Sees.own (by repeat (first | exact List.mem_cons_self | exact List.mem_append_left _ (by assumption) | apply List.mem_cons_of_mem | apply List.mem_append_right)) w hw) (whd_get0 (by omega)) (whd_get1 (by omega)) (whd_get2 (by omega)) (hR.root hw k (by omega)) (hrw k (by omega))))) ?_
    refine VL.r (.inl rfl) rfl (by decide) (yr_not rfl rfl) ?_
    refine VL.nil ?_
    refine VE.then_wp ?_
    refine V.cond rfl (fun h2 => ?_) (fun h2 => ?_)
    · skip
      replace h2 := bnot_t h2
      refine V.seq ?_
      refine V.region ?_
      refine VL.r (.inl rfl) rfl (by decide) (yr_assign (u := .bool false) rfl rfl) ?_
      refine VL.nil ?_
      refine VE.then_wp ?_
      refine V.ret ?_
      refine VE.block_ret ?_
      refine VE.then_ret ?_
      refine VE.then_ret ?_
      refine VE.block_ret ?_
      refine VE.then_ret ?_
      refine ret1 rfl rfl (fun w1 hw => ?_)
      first
        | exact ⟨congrArg Value.bool (dw_no3 (k := k) (by omega) (by assumption)), hw.below⟩
        | (obtain rfl : k = ws.length := by omega
           refine ⟨congrArg Value.bool ?_, hw.below⟩
           by_cases h9 : 1 ≤ ws.length ∧ ws.length ≤ 8
           · first | exact (decide_eq_true (by omega)).trans (dw_yes h9 hI) | exact dw_yes h9 hI | (exfalso; omega)
           · first | exact (decide_eq_false (by omega)).trans (dw_no2 h9) | exact dw_no2 h9 | (exfalso; omega))
    · skip
      replace h2 := bnot_f h2
      refine V.skip ?_
      refine VE.block_normal ?_
      refine VE.then_wp ?_
      refine V.region ?_
      refine VL.r (.inl rfl) rfl (by decide) (yr_int rfl rfl rfl (.inl ⟨rfl, wrap_in (by omega)⟩)) ?_
      refine VL.r (.inl rfl) rfl (by decide) (yr_move rfl rfl) ?_
      refine VL.nil ?_
      refine VE.round (k + 1) ?_ ?_ ?_ ?_ ?_
      · exact (.cons rfl .nil)
      · exact (.cons rfl (.cons rfl .nil))
      · exact (fun w hw => hw)
      · exact ⟨by omega, fun j hj => by rcases Nat.lt_or_ge j k with h | h; exact hI j h; obtain rfl : j = k := (by omega); assumption⟩
      · (try dsimp only); omega
  · skip
    replace h1 := ic_lss' h1
    refine V.exit ?_
    refine VE.then_exit ?_
    refine VE.then_exit ?_
    refine VE.block_here ?_
    refine VE.then_wp ?_
    refine V.seq ?_
    refine V.region ?_
    refine VL.r (.inl rfl) rfl (by decide) (yr_move rfl rfl) ?_
    refine VL.r (.inl rfl) rfl (by decide) (yr_len rfl Try.underlying22 rfl) ?_
    refine VL.r (.inl rfl) rfl (by decide) (yr_icmp rfl (.inr (.inr (.inr (.inr (.inr rfl))))) rfl rfl) ?_
    refine VL.r (.inl rfl) rfl (by decide) (yr_move rfl rfl) ?_
    refine VX.split 18 _ rfl (fun h3 => ?_) (fun h3 => ?_)
    · skip
      replace h3 := ic_geq h3
      refine VL.r (.inr ⟨_, _, _, rfl, rfl, rfl⟩) rfl (by decide) (yr_move rfl rfl) ?_
      refine VL.r (.inr ⟨_, _, _, rfl, rfl, rfl⟩) rfl (by decide) (yr_len rfl Try.underlying22 rfl) ?_
      refine VL.r (.inr ⟨_, _, _, rfl, rfl, rfl⟩) rfl (by decide) (yr_icmp rfl (.inr (.inr (.inr (.inl rfl)))) rfl rfl) ?_
      refine VL.r (.inl rfl) rfl (by decide) (yr_pick_t rfl rfl rfl) ?_
      refine VL.r (.inl rfl) rfl (by decide) (yr_assign rfl rfl) ?_
      refine VL.nil ?_
      refine VE.then_wp ?_
      refine V.ret ?_
      refine ret1 rfl rfl (fun w1 hw => ?_)
      first
        | exact ⟨congrArg Value.bool (dw_no3 (k := k) (by omega) (by assumption)), hw.below⟩
        | (obtain rfl : k = ws.length := by omega
           refine ⟨congrArg Value.bool ?_, hw.below⟩
           by_cases h9 : 1 ≤ ws.length ∧ ws.length ≤ 8
           · first | exact (decide_eq_true (by omega)).trans (dw_yes h9 hI) | exact dw_yes h9 hI | (exfalso; omega)
           · first | exact (decide_eq_false (by omega)).trans (dw_no2 h9) | exact dw_no2 h9 | (exfalso; omega))
    · skip
      replace h3 := ic_geq' h3
      refine VL.no rfl rfl rfl rfl rfl (by decide) ?_
      refine VL.no rfl rfl rfl rfl rfl (by decide) ?_
      refine VL.no rfl rfl rfl rfl rfl (by decide) ?_
      refine VL.r (.inl rfl) rfl (by decide) (yr_pick_f (u := .bool false) rfl rfl rfl) ?_
      refine VL.r (.inl rfl) rfl (by decide) (yr_assign rfl rfl) ?_
      refine VL.nil ?_
      refine VE.then_wp ?_
      refine V.ret ?_
      refine ret1 rfl rfl (fun w1 hw => ?_)
      first
        | exact ⟨congrArg Value.bool (dw_no3 (k := k) (by omega) (by assumption)), hw.below⟩
        | (obtain rfl : k = ws.length := by omega
           refine ⟨congrArg Value.bool ?_, hw.below⟩
           by_cases h9 : 1 ≤ ws.length ∧ ws.length ≤ 8
           · first | exact (decide_eq_true (by omega)).trans (dw_yes h9 hI) | exact dw_yes h9 hI | (exfalso; omega)
           · first | exact (decide_eq_false (by omega)).trans (dw_no2 h9) | exact dw_no2 h9 | (exfalso; omega))

theorem c_l07Points {w : World} {a' : Option Addr} {c' : Nat} {vs : List V3} (hV : Cl w a' (vl vs)) (hvn : vs.length ≤ 1050000) : Pure Try.prog 81 [.slice a' vs.length c'] w (.bool (dpOk vs)) := by
  refine Pure.enter Try.func81 rfl Try.ntmps81 (Nat.le_of_ble_eq_true rfl) ?_
  refine V.seq ?_
  refine V.region ?_
  refine VL.r (.inl rfl) rfl (by decide) (yr_assign (u := .bool false) rfl rfl) ?_
  refine VL.nil ?_
  refine VE.then_wp ?_
  refine V.seq ?_
  refine V.seq ?_
  refine V.region ?_
  refine VL.r (.inl rfl) rfl (by decide) (yr_move rfl rfl) ?_
  refine VL.r (.inl rfl) rfl (by decide) (yr_len rfl Try.underlying51 rfl) ?_
  refine VL.r (.inl rfl) rfl (by decide) (yr_move (u := .int .i64 0) rfl rfl) ?_
  refine VL.nil ?_
  refine VE.then_wp ?_
  refine V.block ?_
  refine V.loops (G := Nat) [(0, _), (5, _)] (fun (k : Nat) => k ≤ vs.length ∧ ∀ j, j < k → fin3 (vs.getD j z3) = true) (fun (k : Nat) => [(6, .int .i64 (k : Int))]) (fun (k : Nat) => vs.length - k) 0 (.cons rfl (.cons rfl .nil)) (.cons rfl .nil) ?_ ?_
  · exact (by exact ⟨by omega, fun j h => by omega⟩)
  rintro k ⟨hk, hI⟩
  show V _ _ _ _ ([(6, .int .i64 (k : Int))] ++ [(0, _), (5, _)]) _ _
  refine V.seq ?_
  refine V.region ?_
  refine VL.r (.inl rfl) rfl (by decide) (yr_icmp rfl (.inr (.inr (.inl rfl))) rfl rfl) ?_
  refine VL.nil ?_
  refine VE.then_wp ?_
  refine V.seq ?_
  refine V.cond rfl (fun h1 => ?_) (fun h1 => ?_)
  · skip
    replace h1 := ic_lss h1
    refine V.skip ?_
    refine VE.then_wp ?_
    refine V.seq ?_
    refine V.block ?_
    refine V.seq ?_
    refine V.region ?_
    refine VL.r (.inl rfl) rfl (by decide) (yr_move rfl rfl) ?_
    refine VL.r (.inl rfl) rfl (by decide) (yr_assign rfl rfl) ?_
    refine VL.nil ?_
    refine VE.then_wp ?_
    refine V.seq ?_
    refine V.region ?_
    refine VL.r (.inl rfl) rfl (by decide) (yr_move rfl rfl) ?_
    refine VL.r (.inl rfl) rfl (by decide) (yr_move rfl rfl) ?_
    refine VL.q (.inl rfl) rfl (by decide) (yq_idxN (k := k) rfl Try.underlying51 sz53_Flat rfl rfl (by first | exact Sees.root (by assumption) | exact Sees.own (by repeat (first | exact List.mem_cons_self | exact List.mem_append_left _ (by assumption) | apply List.mem_cons_of_mem | apply List.mem_append_right)) | exact Sees.root (hR _ (by omega)) | exact Sees.own (RowsIn.mem (by repeat (first | exact RowsIn.here | exact RowsIn.last | apply RowsIn.there | apply RowsIn.thereS)) _ (by omega)) | exact Sees.own (WRowsIn.mem (by repeat (first | exact WRowsIn.here | exact WRowsIn.last | apply WRowsIn.there | apply WRowsIn.thereS)) _ (by omega))) (by first | rfl | omega | (push_cast; rfl) | (push_cast; omega) | exact tmod_nat _ _) (by exact vl_length _) (by decide) (by omega)) ?_
    refine VL.q (.inl rfl) rfl (by decide) (yq_loadV rfl Try.underlying53 sz53_Flat rfl (by first | exact Sees.root (by assumption) | exact Sees.own (by repeat (first | exact List.mem_cons_self | exact List.mem_append_left _ (by assumption) | apply List.mem_cons_of_mem | apply List.mem_append_right)) | exact Sees.root (hR _ (by omega)) | exact Sees.own (RowsIn.mem (by repeat (first | exact RowsIn.here | exact RowsIn.last | apply RowsIn.there | apply RowsIn.thereS)) _ (by omega)) | exact Sees.own (WRowsIn.mem (by repeat (first | exact WRowsIn.here | exact WRowsIn.last | apply WRowsIn.there | apply WRowsIn.thereS)) _ (by omega))) (by omega)) ?_
    refine VL.q (.inl rfl) rfl (by decide) (yq_callf rfl known84_Flat (.cons rfl .nil) (fun w hw => c_fin3S)) ?_
    refine VL.r (.inl rfl) rfl (by decide) (yr_not rfl rfl) ?_
    refine VL.nil ?_
    refine VE.then_wp ?_
    refine V.cond rfl (fun h2 => ?_) (fun h2 => ?_)
    · skip
      replace h2 := bnot_t h2
      refine V.seq ?_
      refine V.region ?_
      refine VL.r (.inl rfl) rfl (by decide) (yr_assign (u := .bool false) rfl rfl) ?_
      refine VL.nil ?_
      refine VE.then_wp ?_
      refine V.ret ?_
      refine VE.block_ret ?_
      refine VE.then_ret ?_
      refine VE.then_ret ?_
      refine VE.block_ret ?_
      refine VE.then_ret ?_
      refine ret1 rfl rfl (fun w1 hw => ?_)
      first
        | exact ⟨congrArg Value.bool (dp_no3 (k := k) (by omega) (by assumption)), hw.below⟩
        | (obtain rfl : k = vs.length := by omega
           refine ⟨congrArg Value.bool ?_, hw.below⟩
           by_cases h9 : 1 ≤ vs.length ∧ vs.length ≤ 48
           · first | exact (decide_eq_true (by omega)).trans (dp_yes h9 hI) | exact dp_yes h9 hI | (exfalso; omega)
           · first | exact (decide_eq_false (by omega)).trans (dp_no2 h9) | exact dp_no2 h9 | (exfalso; omega))
    · skip
      replace h2 := bnot_f h2
      refine V.skip ?_
      refine VE.block_normal ?_
      refine VE.then_wp ?_
      refine V.region ?_
      refine VL.r (.inl rfl) rfl (by decide) (yr_int rfl rfl rfl (.inl ⟨rfl, wrap_in (by omega)⟩)) ?_
      refine VL.r (.inl rfl) rfl (by decide) (yr_move rfl rfl) ?_
      refine VL.nil ?_
      refine VE.round (k + 1) ?_ ?_ ?_ ?_ ?_
      · exact (.cons rfl .nil)
      · exact (.cons rfl (.cons rfl .nil))
      · exact (fun w hw => hw)
      · exact ⟨by omega, fun j hj => by rcases Nat.lt_or_ge j k with h | h; exact hI j h; obtain rfl : j = k := (by omega); assumption⟩
      · (try dsimp only); omega
  · skip
    replace h1 := ic_lss' h1
    refine V.exit ?_
    refine VE.then_exit ?_
    refine VE.then_exit ?_
    refine VE.block_here ?_
    refine VE.then_wp ?_
    refine V.seq ?_
    refine V.region ?_
    refine VL.r (.inl rfl) rfl (by decide) (yr_move rfl rfl) ?_
    refine VL.r (.inl rfl) rfl (by decide) (yr_len rfl Try.underlying51 rfl) ?_
    refine VL.r (.inl rfl) rfl (by decide) (yr_icmp rfl (.inr (.inr (.inr (.inr (.inr rfl))))) rfl rfl) ?_
    refine VL.r (.inl rfl) rfl (by decide) (yr_move rfl rfl) ?_
    refine VX.split 19 _ rfl (fun h3 => ?_) (fun h3 => ?_)
    · skip
      replace h3 := ic_geq h3
      refine VL.r (.inr ⟨_, _, _, rfl, rfl, rfl⟩) rfl (by decide) (yr_move rfl rfl) ?_
      refine VL.r (.inr ⟨_, _, _, rfl, rfl, rfl⟩) rfl (by decide) (yr_len rfl Try.underlying51 rfl) ?_
      refine VL.r (.inr ⟨_, _, _, rfl, rfl, rfl⟩) rfl (by decide) (yr_icmp rfl (.inr (.inr (.inr (.inl rfl)))) rfl rfl) ?_
      refine VL.r (.inl rfl) rfl (by decide) (yr_pick_t rfl rfl rfl) ?_
      refine VL.r (.inl rfl) rfl (by decide) (yr_assign rfl rfl) ?_
      refine VL.nil ?_
      refine VE.then_wp ?_
      refine V.ret ?_
      refine ret1 rfl rfl (fun w1 hw => ?_)
      first
        | exact ⟨congrArg Value.bool (dp_no3 (k := k) (by omega) (by assumption)), hw.below⟩
        | (obtain rfl : k = vs.length := by omega
           refine ⟨congrArg Value.bool ?_, hw.below⟩
           by_cases h9 : 1 ≤ vs.length ∧ vs.length ≤ 48
           · first | exact (decide_eq_true (by omega)).trans (dp_yes h9 hI) | exact dp_yes h9 hI | (exfalso; omega)
           · first | exact (decide_eq_false (by omega)).trans (dp_no2 h9) | exact dp_no2 h9 | (exfalso; omega))
    · skip
      replace h3 := ic_geq' h3
      refine VL.no rfl rfl rfl rfl rfl (by decide) ?_
      refine VL.no rfl rfl rfl rfl rfl (by decide) ?_
      refine VL.no rfl rfl rfl rfl rfl (by decide) ?_
      refine VL.r (.inl rfl) rfl (by decide) (yr_pick_f (u := .bool false) rfl rfl rfl) ?_
      refine VL.r (.inl rfl) rfl (by decide) (yr_assign rfl rfl) ?_
      refine VL.nil ?_
      refine VE.then_wp ?_
      refine V.ret ?_
      refine ret1 rfl rfl (fun w1 hw => ?_)
      first
        | exact ⟨congrArg Value.bool (dp_no3 (k := k) (by omega) (by assumption)), hw.below⟩
        | (obtain rfl : k = vs.length := by omega
           refine ⟨congrArg Value.bool ?_, hw.below⟩
           by_cases h9 : 1 ≤ vs.length ∧ vs.length ≤ 48
           · first | exact (decide_eq_true (by omega)).trans (dp_yes h9 hI) | exact dp_yes h9 hI | (exfalso; omega)
           · first | exact (decide_eq_false (by omega)).trans (dp_no2 h9) | exact dp_no2 h9 | (exfalso; omega))

theorem c_areDW {w : World} {a : Option Addr} {c : Nat} {f : Nat → Option Addr × Nat} {ws : List Wr} (hA : Cl w a (whd f ws)) (hR : WRws w f ws) (hn : wbulk ws ≤ 1050000) : Pure Try.prog 86 [.slice a ws.length c] w (.bool (dwOk ws)) := by
  refine Pure.enter Try.func86 rfl Try.ntmps86 (Nat.le_of_ble_eq_true rfl) ?_
  have hwl : ws.length ≤ wbulk ws := by unfold wbulk; omega
  have hrw : ∀ k, k < ws.length → (ws.getD k zw).1.length ≤ 1050000 := fun k hk => by have := wbulk_row hk; omega
  refine V.seq ?_
  refine V.region ?_
  refine VL.r (.inl rfl) rfl (by decide) (yr_assign (u := .bool false) rfl rfl) ?_
  refine VL.nil ?_
  refine VE.then_wp ?_
  refine V.seq ?_
  refine V.region ?_
  refine VL.r (.inl rfl) rfl (by decide) (yr_move rfl rfl) ?_
  refine VL.r (.inl rfl) rfl (by decide) (yr_len rfl Try.underlying22 rfl) ?_
  refine VL.q (.inl rfl) rfl (by decide) (yq_callf rfl known154_Flat (.cons rfl .nil) (fun w hw => c_isUnknowns _)) ?_
  refine VL.r (.inl rfl) rfl (by decide) (yr_move rfl rfl) ?_
  refine VX.split 6 _ rfl (fun h1 => ?_) (fun h1 => ?_)
  · skip
    refine VL.r (.inr ⟨_, _, _, rfl, rfl, rfl⟩) rfl (by decide) (yr_move rfl rfl) ?_
    refine VL.q (.inr ⟨_, _, _, rfl, rfl, rfl⟩) rfl (by decide) (yq_callf rfl known76_Flat (.cons rfl .nil) (fun w hw => (c_implAre (by first | exact Sees.root (by assumption) w hw | exact Sees.own (by repeat (first | exact List.mem_cons_self | exact List.mem_append_left _ (by assumption) | apply List.mem_cons_of_mem | apply List.mem_append_right)) w hw) (by first | exact WRws.root (by assumption) hw | exact WRws.own (by repeat (first | exact WRowsIn.here | exact WRowsIn.last | apply WRowsIn.there | apply WRowsIn.thereS)) hw) (by omega)))) ?_
    refine VL.r (.inl rfl) rfl (by decide) (yr_pick_t rfl rfl rfl) ?_
    refine VL.r (.inl rfl) rfl (by decide) (yr_assign rfl rfl) ?_
    refine VL.nil ?_
    refine VE.then_wp ?_
    refine V.ret ?_
    refine ret1 rfl rfl (fun w1 hw => ?_)
    first
      | exact ⟨congrArg Value.bool (dw_impl (by assumption)), hw.below⟩
      | exact ⟨congrArg Value.bool (dw_no (by assumption)), hw.below⟩
  · skip
    refine VL.no rfl rfl rfl rfl rfl (by decide) ?_
    refine VL.no rfl rfl rfl rfl rfl (by decide) ?_
    refine VL.r (.inl rfl) rfl (by decide) (yr_pick_f (u := .bool false) rfl rfl rfl) ?_
    refine VL.r (.inl rfl) rfl (by decide) (yr_assign rfl rfl) ?_
    refine VL.nil ?_
    refine VE.then_wp ?_
    refine V.ret ?_
    refine ret1 rfl rfl (fun w1 hw => ?_)
    first
      | exact ⟨congrArg Value.bool (dw_impl (by assumption)), hw.below⟩
      | exact ⟨congrArg Value.bool (dw_no (by assumption)), hw.below⟩

theorem c_areDP {w : World} {a' : Option Addr} {c' : Nat} {vs : List V3} (hV : Cl w a' (vl vs)) (hvn : vs.length ≤ 1050000) : Pure Try.prog 87 [.slice a' vs.length c'] w (.bool (dpOk vs)) := by
  refine Pure.enter Try.func87 rfl Try.ntmps87 (Nat.le_of_ble_eq_true rfl) ?_
  refine V.seq ?_
  refine V.region ?_
  refine VL.r (.inl rfl) rfl (by decide) (yr_assign (u := .bool false) rfl rfl) ?_
  refine VL.nil ?_
  refine VE.then_wp ?_
  refine V.seq ?_
  refine V.region ?_
  refine VL.r (.inl rfl) rfl (by decide) (yr_move rfl rfl) ?_
  refine VL.r (.inl rfl) rfl (by decide) (yr_len rfl Try.underlying51 rfl) ?_
  refine VL.q (.inl rfl) rfl (by decide) (yq_callf rfl known155_Flat (.cons rfl .nil) (fun w hw => c_isRows _)) ?_
  refine VL.r (.inl rfl) rfl (by decide) (yr_move rfl rfl) ?_
  refine VX.split 6 _ rfl (fun h1 => ?_) (fun h1 => ?_)
  · skip
    refine VL.r (.inr ⟨_, _, _, rfl, rfl, rfl⟩) rfl (by decide) (yr_move rfl rfl) ?_
    refine VL.q (.inr ⟨_, _, _, rfl, rfl, rfl⟩) rfl (by decide) (yq_callf rfl known156_Flat (.cons rfl .nil) (fun w hw => (c_areFinV (by first | exact Sees.root (by assumption) w hw | exact Sees.own (by repeat (first | exact List.mem_cons_self | exact List.mem_append_left _ (by assumption) | apply List.mem_cons_of_mem | apply List.mem_append_right)) w hw) (by omega)))) ?_
    refine VL.r (.inl rfl) rfl (by decide) (yr_pick_t rfl rfl rfl) ?_
    refine VL.r (.inl rfl) rfl (by decide) (yr_assign rfl rfl) ?_
    refine VL.nil ?_
    refine VE.then_wp ?_
    refine V.ret ?_
    refine ret1 rfl rfl (fun w1 hw => ?_)
    first
      | exact ⟨congrArg Value.bool (dp_impl (by assumption)), hw.below⟩
      | exact ⟨congrArg Value.bool (dp_no (by assumption)), hw.below⟩
  · skip
    refine VL.no rfl rfl rfl rfl rfl (by decide) ?_
    refine VL.no rfl rfl rfl rfl rfl (by decide) ?_
    refine VL.r (.inl rfl) rfl (by decide) (yr_pick_f (u := .bool false) rfl rfl rfl) ?_
    refine VL.r (.inl rfl) rfl (by decide) (yr_assign rfl rfl) ?_
    refine VL.nil ?_
    refine VE.then_wp ?_
    refine V.ret ?_
    refine ret1 rfl rfl (fun w1 hw => ?_)
    first
      | exact ⟨congrArg Value.bool (dp_impl (by assumption)), hw.below⟩
      | exact ⟨congrArg Value.bool (dp_no (by assumption)), hw.below⟩

theorem c_l02AllF {w : World} {a : Option Addr} {c : Nat} {f : Nat → Option Addr × Nat} {ws : List Wr} {p1 p2 p3 : Nat} (hA : Cl w a (whd f ws)) (hR : WRws w f ws) (hn : wbulk ws ≤ 1050000) (hv : wiresOk ws = true) (hpp : fin3 (p1, p2, p3) = true) : Pure Try.prog 82 [.slice a ws.length c, vv (p1, p2, p3)] w (vv (fieldI ws (p1, p2, p3))) := by
  refine Pure.enter Try.func82 rfl Try.ntmps82 (Nat.le_of_ble_eq_true rfl) ?_
  have hwl : ws.length ≤ wbulk ws := by unfold wbulk; omega
  have hrw : ∀ k, k < ws.length → (ws.getD k zw).1.length ≤ 1050000 := fun k hk => by have := wbulk_row hk; omega
  have hv8 := wires_len hv
  have hvl := fun (k : Nat) (hk : k < ws.length) => wire_len hv hk
  refine V.seq ?_
  refine V.region ?_
  refine VL.new1 (.inl rfl) rfl (by decide) (yn_box rfl rfl (.inr ⟨rfl, rfl⟩)) ?_
  intro b3
  refine VL.new1 (.inl rfl) rfl (by decide) (yn_alloc rfl zero53_Flat rfl) ?_
  intro b4
  refine VL.nil ?_
  refine VE.then_wp ?_
  refine V.seq ?_
  refine V.region ?_
  refine VL.q (.inl rfl) rfl (by decide) (yq_loadS rfl Try.underlying53 sz53_Flat rfl (by first | exact Sees.root (by assumption) | exact Sees.own (by repeat (first | exact List.mem_cons_self | exact List.mem_append_left _ (by assumption) | apply List.mem_cons_of_mem | apply List.mem_append_right)) | exact Sees.root (hR _ (by omega)) | exact Sees.own (RowsIn.mem (by repeat (first | exact RowsIn.here | exact RowsIn.last | apply RowsIn.there | apply RowsIn.thereS)) _ (by omega)) | exact Sees.own (WRowsIn.mem (by repeat (first | exact WRowsIn.here | exact WRowsIn.last | apply WRowsIn.there | apply WRowsIn.thereS)) _ (by omega))) rfl rfl rfl) ?_
  refine VL.q (.inl rfl) rfl (by decide) (yq_loadS rfl Try.underlying53 sz53_Flat rfl (by first | exact Sees.root (by assumption) | exact Sees.own (by repeat (first | exact List.mem_cons_self | exact List.mem_append_left _ (by assumption) | apply List.mem_cons_of_mem | apply List.mem_append_right)) | exact Sees.root (hR _ (by omega)) | exact Sees.own (RowsIn.mem (by repeat (first | exact RowsIn.here | exact RowsIn.last | apply RowsIn.there | apply RowsIn.thereS)) _ (by omega)) | exact Sees.own (WRowsIn.mem (by repeat (first | exact WRowsIn.here | exact WRowsIn.last | apply WRowsIn.there | apply WRowsIn.thereS)) _ (by omega))) rfl rfl rfl) ?_
  refine VL.q (.inl rfl) rfl (by decide) (yq_callf rfl known127_Flat (.cons rfl (.cons rfl .nil)) (fun w hw => c_sub3S)) ?_
  refine VL.new1 (.inl rfl) rfl (by decide) (yn_alloc rfl zero53_Flat rfl) ?_
  intro b5
  refine VL.s (.inl rfl) rfl (yc_store rfl sz53_Flat rfl rfl (by repeat (first | exact UpdF.here | apply UpdF.there | apply UpdF.thereS)) (.inr ⟨rfl, rfl⟩) rfl (by first | exact Nat.le_of_ble_eq_true rfl | simp) (by decide) rfl) ?_
  rintro ⟨⟩
  refine VL.nil ?_
  refine VE.then_wp ?_
  refine V.seq ?_
  refine V.seq ?_
  refine V.region ?_
  refine VL.q (.inl rfl) rfl (by decide) (yq_loadS rfl Try.underlying53 sz53_Flat rfl (by first | exact Sees.root (by assumption) | exact Sees.own (by repeat (first | exact List.mem_cons_self | exact List.mem_append_left _ (by assumption) | apply List.mem_cons_of_mem | apply List.mem_append_right)) | exact Sees.root (hR _ (by omega)) | exact Sees.own (RowsIn.mem (by repeat (first | exact RowsIn.here | exact RowsIn.last | apply RowsIn.there | apply RowsIn.thereS)) _ (by omega)) | exact Sees.own (WRowsIn.mem (by repeat (first | exact WRowsIn.here | exact WRowsIn.last | apply WRowsIn.there | apply WRowsIn.thereS)) _ (by omega))) rfl rfl rfl) ?_
  refine VL.q (.inl rfl) rfl (by decide) (yq_callf rfl known84_Flat (.cons rfl .nil) (fun w hw => c_fin3S)) ?_
  refine VL.nil ?_
  refine VE.then_wp ?_
  refine V.cond rfl (fun h1 => ?_) (fun h1 => ?_)
  · skip
    refine V.region ?_
    refine VL.r (.inl rfl) rfl (by decide) (yr_build rfl lay53_Flat rfl .nil (by first | (simp; done) | (simp [vv]; done) | (simp [cn, cn1, cn0]; done)) rfl) ?_
    refine VL.s (.inl rfl) rfl (yc_store rfl sz53_Flat rfl rfl (by repeat (first | exact UpdF.here | apply UpdF.there | apply UpdF.thereS)) (.inr ⟨rfl, rfl⟩) rfl (by first | exact Nat.le_of_ble_eq_true rfl | simp) (by decide) rfl) ?_
    rintro ⟨⟩
    refine VL.nil ?_
    refine VE.then_wp ?_
    refine V.seq ?_
    refine V.seq ?_
    refine V.region ?_
    refine VL.r (.inl rfl) rfl (by decide) (yr_assign (u := .int .i64 0) rfl rfl) ?_
    refine VL.nil ?_
    refine VE.then_wp ?_
    refine V.block ?_
    refine V.loopc (G := Nat) [(0, _), (3, _), (4, _), (5, _)] (fun (i : Nat) => i ≤ ws.length) (fun (i : Nat) => [⟨some ⟨b5, 0, none⟩, [.float .f32 (sumA ws (p1, p2, p3) z3 i).1, .float .f32 (sumA ws (p1, p2, p3) z3 i).2.1, .float .f32 (sumA ws (p1, p2, p3) z3 i).2.2], 3, 53⟩, ⟨some ⟨b4, 0, none⟩, [.float .f32 (z3).1, .float .f32 (z3).2.1, .float .f32 (z3).2.2], 3, 53⟩, ⟨some ⟨b3, 0, none⟩, [.float .f32 ((p1, p2, p3)).1, .float .f32 ((p1, p2, p3)).2.1, .float .f32 ((p1, p2, p3)).2.2], 3, 53⟩]) (fun (i : Nat) => [(6, .int .i64 (i : Int))]) (fun (i : Nat) => ws.length - i) 0 (.cons rfl (.cons rfl (.cons rfl (.cons rfl .nil)))) (.cons rfl .nil) ?_ ?_ ?_
    · exact (fun w hw => hw)
    · exact (by omega)
    rintro i hi
    show V _ _ _ [⟨some ⟨b5, 0, none⟩, [.float .f32 (sumA ws (p1, p2, p3) z3 i).1, .float .f32 (sumA ws (p1, p2, p3) z3 i).2.1, .float .f32 (sumA ws (p1, p2, p3) z3 i).2.2], 3, 53⟩, ⟨some ⟨b4, 0, none⟩, [.float .f32 (z3).1, .float .f32 (z3).2.1, .float .f32 (z3).2.2], 3, 53⟩, ⟨some ⟨b3, 0, none⟩, [.float .f32 ((p1, p2, p3)).1, .float .f32 ((p1, p2, p3)).2.1, .float .f32 ((p1, p2, p3)).2.2], 3, 53⟩] ([(6, .int .i64 (i : Int))] ++ [(0, _), (3, _), (4, _), (5, _)]) _ _
    refine V.seq ?_
    refine V.seq ?_
    refine V.region ?_
    refine VL.r (.inl rfl) rfl (by decide) (yr_move rfl rfl) ?_
    refine VL.r (.inl rfl) rfl (by decide) (yr_move rfl rfl) ?_
    refine VL.r (.inl rfl) rfl (by decide) (yr_len rfl Try.underlying22 rfl) ?_
    refine VL.r (.inl rfl) rfl (by decide) (yr_icmp rfl (.inr (.inr (.inl rfl))) rfl rfl) ?_
    refine VL.nil ?_
    refine VE.then_wp ?_
    refine V.cond rfl (fun h2 => ?_) (fun h2 => ?_)
    · skip
      replace h2 := ic_lss h2
      refine V.skip ?_
      refine VE.then_wp ?_
      refine V.seq ?_
      refine V.block ?_
      refine V.draw [(0, 0), (1, 0), (2, 0), (3, 0), (4, 0), (5, 0), (6, 0), (7, 3)] mixed_Flat (by kernel_rfl) (by intro j o hj; simp at hj) ?_
      refine SW.q rfl (.inl rfl) rfl (by decide) (yq_loadS rfl Try.underlying53 sz53_Flat rfl (by first | exact Sees.root (by assumption) | exact Sees.own (by repeat (first | exact List.mem_cons_self | exact List.mem_append_left _ (by assumption) | apply List.mem_cons_of_mem | apply List.mem_append_right)) | exact Sees.root (hR _ (by omega)) | exact Sees.own (RowsIn.mem (by repeat (first | exact RowsIn.here | exact RowsIn.last | apply RowsIn.there | apply RowsIn.thereS)) _ (by omega)) | exact Sees.own (WRowsIn.mem (by repeat (first | exact WRowsIn.here | exact WRowsIn.last | apply WRowsIn.there | apply WRowsIn.thereS)) _ (by omega))) rfl rfl rfl) ?_
      refine SW.r rfl (.inl rfl) rfl (by decide) (yr_move rfl rfl) ?_
      refine SW.r rfl (.inl rfl) rfl (by decide) (yr_move rfl rfl) ?_
      refine SW.q rfl (.inl rfl) rfl (by decide) (yq_idxN (k := i) rfl Try.underlying22 sz122_Flat rfl rfl (by first | exact Sees.root (by assumption) | exact Sees.own (by repeat (first | exact List.mem_cons_self | exact List.mem_append_left _ (by assumption) | apply List.mem_cons_of_mem | apply List.mem_append_right)) | exact Sees.root (hR _ (by omega)) | exact Sees.own (RowsIn.mem (by repeat (first | exact RowsIn.here | exact RowsIn.last | apply RowsIn.there | apply RowsIn.thereS)) _ (by omega)) | exact Sees.own (WRowsIn.mem (by repeat (first | exact WRowsIn.here | exact WRowsIn.last | apply WRowsIn.there | apply WRowsIn.thereS)) _ (by omega))) (by first | rfl | omega | (push_cast; rfl) | (push_cast; omega) | exact tmod_nat _ _) (by exact whd_length _ _) (by decide) (by omega)) ?_
      refine SW.q rfl (.inl rfl) rfl (by decide) (yq_loadS rfl Try.underlying53 sz53_Flat rfl (by first | exact Sees.root (by assumption) | exact Sees.own (by repeat (first | exact List.mem_cons_self | exact List.mem_append_left _ (by assumption) | apply List.mem_cons_of_mem | apply List.mem_append_right)) | exact Sees.root (hR _ (by omega)) | exact Sees.own (RowsIn.mem (by repeat (first | exact RowsIn.here | exact RowsIn.last | apply RowsIn.there | apply RowsIn.thereS)) _ (by omega)) | exact Sees.own (WRowsIn.mem (by repeat (first | exact WRowsIn.here | exact WRowsIn.last | apply WRowsIn.there | apply WRowsIn.thereS)) _ (by omega))) rfl rfl rfl) ?_
      refine SW.q rfl (.inl rfl) rfl (by decide) (yq_callf rfl known107_Flat (.cons rfl (.cons rfl .nil)) (fun w hw => (c_l02Field (all := whd f ws) (o := i * 3) (ps := (ws.getD i zw).1) (cl := (ws.getD i zw).2.1) (cur := (ws.getD i zw).2.2) (by first | exact Sees.root (by assumption) w hw | exact Sees.own (by repeat (first | exact List.mem_cons_self | exact List.mem_append_left _ (by assumption) | apply List.mem_cons_of_mem | apply List.mem_append_right)) w hw) (whd_get0 (by omega)) (whd_get1 (by omega)) (whd_get2 (by omega)) (hR.root hw i (by omega)) (hvl i (by omega)).1 (hvl i (by omega)).2))) ?_
      refine SW.q rfl (.inl rfl) rfl (by decide) (yq_callf rfl known153_Flat (.cons rfl (.cons rfl .nil)) (fun w hw => c_add3S)) ?_
      refine SW.s rfl (.inl rfl) rfl (yc_store rfl sz53_Flat rfl rfl (by repeat (first | exact UpdF.here | apply UpdF.there | apply UpdF.thereS)) (.inr ⟨rfl, rfl⟩) rfl (by first | exact Nat.le_of_ble_eq_true rfl | simp) (by decide) rfl) ?_
      rintro ⟨⟩
      refine SW.done ?_
      refine VE.block_normal ?_
      refine VE.then_wp ?_
      refine V.region ?_
      refine VL.r (.inl rfl) rfl (by decide) (yr_move rfl rfl) ?_
      refine VL.r (.inl rfl) rfl (by decide) (yr_int rfl rfl rfl (.inl ⟨rfl, wrap_in (by omega)⟩)) ?_
      refine VL.r (.inl rfl) rfl (by decide) (yr_assign rfl rfl) ?_
      refine VL.nil ?_
      refine VE.round (i + 1) ?_ ?_ ?_ ?_ ?_
      · exact (.cons rfl .nil)
      · exact (.cons rfl (.cons rfl (.cons rfl (.cons rfl .nil))))
      · exact (fun w hw => hw)
      · omega
      · (try dsimp only); omega
    · skip
      replace h2 := ic_lss' h2
      refine V.exit ?_
      refine VE.then_exit ?_
      refine VE.then_exit ?_
      refine VE.block_here ?_
      refine VE.then_wp ?_
      refine V.seq ?_
      refine V.region ?_
      refine VL.q (.inl rfl) rfl (by decide) (yq_loadS rfl Try.underlying53 sz53_Flat rfl (by first | exact Sees.root (by assumption) | exact Sees.own (by repeat (first | exact List.mem_cons_self | exact List.mem_append_left _ (by assumption) | apply List.mem_cons_of_mem | apply List.mem_append_right)) | exact Sees.root (hR _ (by omega)) | exact Sees.own (RowsIn.mem (by repeat (first | exact RowsIn.here | exact RowsIn.last | apply RowsIn.there | apply RowsIn.thereS)) _ (by omega)) | exact Sees.own (WRowsIn.mem (by repeat (first | exact WRowsIn.here | exact WRowsIn.last | apply WRowsIn.there | apply WRowsIn.thereS)) _ (by omega))) rfl rfl rfl) ?_
      refine VL.s (.inl rfl) rfl (yc_store rfl sz53_Flat rfl rfl (by repeat (first | exact UpdF.here | apply UpdF.there | apply UpdF.thereS)) (.inr ⟨rfl, rfl⟩) rfl (by first | exact Nat.le_of_ble_eq_true rfl | simp) (by decide) rfl) ?_
      rintro ⟨⟩
      refine VL.nil ?_
      refine VE.then_wp ?_
      refine V.ret ?_
      refine retC rfl (rv_cellS rfl Try.underlying53 sz53_Flat (by first | exact Sees.root (by assumption) | exact Sees.own (by repeat (first | exact List.mem_cons_self | exact List.mem_append_left _ (by assumption) | apply List.mem_cons_of_mem | apply List.mem_append_right)) | exact Sees.root (hR _ (by omega)) | exact Sees.own (RowsIn.mem (by repeat (first | exact RowsIn.here | exact RowsIn.last | apply RowsIn.there | apply RowsIn.thereS)) _ (by omega)) | exact Sees.own (WRowsIn.mem (by repeat (first | exact WRowsIn.here | exact WRowsIn.last | apply WRowsIn.there | apply WRowsIn.thereS)) _ (by omega))) rfl rfl rfl) (by nofun) (fun w1 hw => ?_)
      rw [← fieldS_fin (ws := ws) hpp]
      obtain rfl : i = ws.length := by omega
      first
        | exact ⟨by rw [fieldS, show fin3 (p1, p2, p3) = true by assumption]; rfl, hw.below⟩
        | exact ⟨by rw [fieldS, show fin3 (p1, p2, p3) = false by assumption]; rfl, hw.below⟩
  · skip
    refine V.skip ?_
    refine VE.then_wp ?_
    refine V.seq ?_
    refine V.seq ?_
    refine V.region ?_
    refine VL.r (.inl rfl) rfl (by decide) (yr_assign (u := .int .i64 0) rfl rfl) ?_
    refine VL.nil ?_
    refine VE.then_wp ?_
    refine V.block ?_
    refine V.loopc (G := Nat) [(0, _), (3, _), (4, _), (5, _)] (fun (i : Nat) => i ≤ ws.length) (fun (i : Nat) => [⟨some ⟨b5, 0, none⟩, [.float .f32 (sumA ws (p1, p2, p3) (sub3 (p1, p2, p3) (p1, p2, p3)) i).1, .float .f32 (sumA ws (p1, p2, p3) (sub3 (p1, p2, p3) (p1, p2, p3)) i).2.1, .float .f32 (sumA ws (p1, p2, p3) (sub3 (p1, p2, p3) (p1, p2, p3)) i).2.2], 3, 53⟩, ⟨some ⟨b4, 0, none⟩, [.float .f32 (z3).1, .float .f32 (z3).2.1, .float .f32 (z3).2.2], 3, 53⟩, ⟨some ⟨b3, 0, none⟩, [.float .f32 ((p1, p2, p3)).1, .float .f32 ((p1, p2, p3)).2.1, .float .f32 ((p1, p2, p3)).2.2], 3, 53⟩]) (fun (i : Nat) => [(6, .int .i64 (i : Int))]) (fun (i : Nat) => ws.length - i) 0 (.cons rfl (.cons rfl (.cons rfl (.cons rfl .nil)))) (.cons rfl .nil) ?_ ?_ ?_
    · exact (fun w hw => hw)
    · exact (by omega)
    rintro i hi
    show V _ _ _ [⟨some ⟨b5, 0, none⟩, [.float .f32 (sumA ws (p1, p2, p3) (sub3 (p1, p2, p3) (p1, p2, p3)) i).1, .float .f32 (sumA ws (p1, p2, p3) (sub3 (p1, p2, p3) (p1, p2, p3)) i).2.1, .float .f32 (sumA ws (p1, p2, p3) (sub3 (p1, p2, p3) (p1, p2, p3)) i).2.2], 3, 53⟩, ⟨some ⟨b4, 0, none⟩, [.float .f32 (z3).1, .float .f32 (z3).2.1, .float .f32 (z3).2.2], 3, 53⟩, ⟨some ⟨b3, 0, none⟩, [.float .f32 ((p1, p2, p3)).1, .float .f32 ((p1, p2, p3)).2.1, .float .f32 ((p1, p2, p3)).2.2], 3, 53⟩] ([(6, .int .i64 (i : Int))] ++ [(0, _), (3, _), (4, _), (5, _)]) _ _
    refine V.seq ?_
    refine V.seq ?_
    refine V.region ?_
    refine VL.r (.inl rfl) rfl (by decide) (yr_move rfl rfl) ?_
    refine VL.r (.inl rfl) rfl (by decide) (yr_move rfl rfl) ?_
    refine VL.r (.inl rfl) rfl (by decide) (yr_len rfl Try.underlying22 rfl) ?_
    refine VL.r (.inl rfl) rfl (by decide) (yr_icmp rfl (.inr (.inr (.inl rfl))) rfl rfl) ?_
    refine VL.nil ?_
    refine VE.then_wp ?_
    refine V.cond rfl (fun h3 => ?_) (fun h3 => ?_)
    · skip
      replace h3 := ic_lss h3
      refine V.skip ?_
      refine VE.then_wp ?_
      refine V.seq ?_
      refine V.block ?_
      refine V.draw [(0, 0), (1, 0), (2, 0), (3, 0), (4, 0), (5, 0), (6, 0), (7, 3)] mixed_Flat (by kernel_rfl) (by intro j o hj; simp at hj) ?_
      refine SW.q rfl (.inl rfl) rfl (by decide) (yq_loadS rfl Try.underlying53 sz53_Flat rfl (by first | exact Sees.root (by assumption) | exact Sees.own (by repeat (first | exact List.mem_cons_self | exact List.mem_append_left _ (by assumption) | apply List.mem_cons_of_mem | apply List.mem_append_right)) | exact Sees.root (hR _ (by omega)) | exact Sees.own (RowsIn.mem (by repeat (first | exact RowsIn.here | exact RowsIn.last | apply RowsIn.there | apply RowsIn.thereS)) _ (by omega)) | exact Sees.own (WRowsIn.mem (by repeat (first | exact WRowsIn.here | exact WRowsIn.last | apply WRowsIn.there | apply WRowsIn.thereS)) _ (by omega))) rfl rfl rfl) ?_
      refine SW.r rfl (.inl rfl) rfl (by decide) (yr_move rfl rfl) ?_
      refine SW.r rfl (.inl rfl) rfl (by decide) (yr_move rfl rfl) ?_
      refine SW.q rfl (.inl rfl) rfl (by decide) (yq_idxN (k := i) rfl Try.underlying22 sz122_Flat rfl rfl (by first | exact Sees.root (by assumption) | exact Sees.own (by repeat (first | exact List.mem_cons_self | exact List.mem_append_left _ (by assumption) | apply List.mem_cons_of_mem | apply List.mem_append_right)) | exact Sees.root (hR _ (by omega)) | exact Sees.own (RowsIn.mem (by repeat (first | exact RowsIn.here | exact RowsIn.last | apply RowsIn.there | apply RowsIn.thereS)) _ (by omega)) | exact Sees.own (WRowsIn.mem (by repeat (first | exact WRowsIn.here | exact WRowsIn.last | apply WRowsIn.there | apply WRowsIn.thereS)) _ (by omega))) (by first | rfl | omega | (push_cast; rfl) | (push_cast; omega) | exact tmod_nat _ _) (by exact whd_length _ _) (by decide) (by omega)) ?_
      refine SW.q rfl (.inl rfl) rfl (by decide) (yq_loadS rfl Try.underlying53 sz53_Flat rfl (by first | exact Sees.root (by assumption) | exact Sees.own (by repeat (first | exact List.mem_cons_self | exact List.mem_append_left _ (by assumption) | apply List.mem_cons_of_mem | apply List.mem_append_right)) | exact Sees.root (hR _ (by omega)) | exact Sees.own (RowsIn.mem (by repeat (first | exact RowsIn.here | exact RowsIn.last | apply RowsIn.there | apply RowsIn.thereS)) _ (by omega)) | exact Sees.own (WRowsIn.mem (by repeat (first | exact WRowsIn.here | exact WRowsIn.last | apply WRowsIn.there | apply WRowsIn.thereS)) _ (by omega))) rfl rfl rfl) ?_
      refine SW.q rfl (.inl rfl) rfl (by decide) (yq_callf rfl known107_Flat (.cons rfl (.cons rfl .nil)) (fun w hw => (c_l02Field (all := whd f ws) (o := i * 3) (ps := (ws.getD i zw).1) (cl := (ws.getD i zw).2.1) (cur := (ws.getD i zw).2.2) (by first | exact Sees.root (by assumption) w hw | exact Sees.own (by repeat (first | exact List.mem_cons_self | exact List.mem_append_left _ (by assumption) | apply List.mem_cons_of_mem | apply List.mem_append_right)) w hw) (whd_get0 (by omega)) (whd_get1 (by omega)) (whd_get2 (by omega)) (hR.root hw i (by omega)) (hvl i (by omega)).1 (hvl i (by omega)).2))) ?_
      refine SW.q rfl (.inl rfl) rfl (by decide) (yq_callf rfl known153_Flat (.cons rfl (.cons rfl .nil)) (fun w hw => c_add3S)) ?_
      refine SW.s rfl (.inl rfl) rfl (yc_store rfl sz53_Flat rfl rfl (by repeat (first | exact UpdF.here | apply UpdF.there | apply UpdF.thereS)) (.inr ⟨rfl, rfl⟩) rfl (by first | exact Nat.le_of_ble_eq_true rfl | simp) (by decide) rfl) ?_
      rintro ⟨⟩
      refine SW.done ?_
      refine VE.block_normal ?_
      refine VE.then_wp ?_
      refine V.region ?_
      refine VL.r (.inl rfl) rfl (by decide) (yr_move rfl rfl) ?_
      refine VL.r (.inl rfl) rfl (by decide) (yr_int rfl rfl rfl (.inl ⟨rfl, wrap_in (by omega)⟩)) ?_
      refine VL.r (.inl rfl) rfl (by decide) (yr_assign rfl rfl) ?_
      refine VL.nil ?_
      refine VE.round (i + 1) ?_ ?_ ?_ ?_ ?_
      · exact (.cons rfl .nil)
      · exact (.cons rfl (.cons rfl (.cons rfl (.cons rfl .nil))))
      · exact (fun w hw => hw)
      · omega
      · (try dsimp only); omega
    · skip
      replace h3 := ic_lss' h3
      refine V.exit ?_
      refine VE.then_exit ?_
      refine VE.then_exit ?_
      refine VE.block_here ?_
      refine VE.then_wp ?_
      refine V.seq ?_
      refine V.region ?_
      refine VL.q (.inl rfl) rfl (by decide) (yq_loadS rfl Try.underlying53 sz53_Flat rfl (by first | exact Sees.root (by assumption) | exact Sees.own (by repeat (first | exact List.mem_cons_self | exact List.mem_append_left _ (by assumption) | apply List.mem_cons_of_mem | apply List.mem_append_right)) | exact Sees.root (hR _ (by omega)) | exact Sees.own (RowsIn.mem (by repeat (first | exact RowsIn.here | exact RowsIn.last | apply RowsIn.there | apply RowsIn.thereS)) _ (by omega)) | exact Sees.own (WRowsIn.mem (by repeat (first | exact WRowsIn.here | exact WRowsIn.last | apply WRowsIn.there | apply WRowsIn.thereS)) _ (by omega))) rfl rfl rfl) ?_
      refine VL.s (.inl rfl) rfl (yc_store rfl sz53_Flat rfl rfl (by repeat (first | exact UpdF.here | apply UpdF.there | apply UpdF.thereS)) (.inr ⟨rfl, rfl⟩) rfl (by first | exact Nat.le_of_ble_eq_true rfl | simp) (by decide) rfl) ?_
      rintro ⟨⟩
      refine VL.nil ?_
      refine VE.then_wp ?_
      refine V.ret ?_
      refine retC rfl (rv_cellS rfl Try.underlying53 sz53_Flat (by first | exact Sees.root (by assumption) | exact Sees.own (by repeat (first | exact List.mem_cons_self | exact List.mem_append_left _ (by assumption) | apply List.mem_cons_of_mem | apply List.mem_append_right)) | exact Sees.root (hR _ (by omega)) | exact Sees.own (RowsIn.mem (by repeat (first | exact RowsIn.here | exact RowsIn.last | apply RowsIn.there | apply RowsIn.thereS)) _ (by omega)) | exact Sees.own (WRowsIn.mem (by repeat (first | exact WRowsIn.here | exact WRowsIn.last | apply WRowsIn.there | apply WRowsIn.thereS)) _ (by omega))) rfl rfl rfl) (by nofun) (fun w1 hw => ?_)
      rw [← fieldS_fin (ws := ws) hpp]
      obtain rfl : i = ws.length := by omega
      first
        | exact ⟨by rw [fieldS, show fin3 (p1, p2, p3) = true by assumption]; rfl, hw.below⟩
        | exact ⟨by rw [fieldS, show fin3 (p1, p2, p3) = false by assumption]; rfl, hw.below⟩

end Go.Proofs.Ytppfkajfekafaaa
