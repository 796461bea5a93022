/- Walks: FLine. Printed by gen.py. -/
import Derived.Test.YtppfkajfekafaaaWMarkW
import Derived.Test.YtppfkajfekafaaaWIn
import Derived.KernelRfl
namespace Go.Proofs.Ytppfkajfekafaaa
open Go.RowKit
set_option linter.unusedVariables false
set_option linter.unusedSimpArgs false
set_option maxRecDepth 20000

theorem known166_FLine : Known Try.prog 166 := Known.mk' Try.func166 (by kernel_rfl)
theorem known167_FLine : Known Try.prog 167 := Known.mk' Try.func167 (by kernel_rfl)
theorem sz53_FLine : (Try.prog.info? 53).map (·.size) = some 3 := by kernel_rfl
theorem elt53_FLine : Elt Try.prog 53 [Value.float .f32 0, Value.float .f32 0, Value.float .f32 0] 12 := Elt.mk' (by kernel_rfl) (by decide)
theorem known94_FLine : Known Try.prog 94 := Known.mk' Try.func94 (by kernel_rfl)
theorem zero53_FLine : (Try.prog.info? 53).bind (·.zero) = some (Value.agg #[Value.float .f32 0, Value.float .f32 0, Value.float .f32 0]) := by kernel_rfl
theorem known98_FLine : Known Try.prog 98 := Known.mk' Try.func98 (by kernel_rfl)
theorem known91_FLine : Known Try.prog 91 := Known.mk' Try.func91 (by kernel_rfl)
theorem known84_FLine : Known Try.prog 84 := Known.mk' Try.func84 (by kernel_rfl)
theorem known92_FLine : Known Try.prog 92 := Known.mk' Try.func92 (by kernel_rfl)
theorem known99_FLine : Known Try.prog 99 := Known.mk' Try.func99 (by kernel_rfl)
theorem mixed_FLine : Try.prog.follows .mixedOrders = true := by kernel_rfl
theorem known93_FLine : Known Try.prog 93 := Known.mk' Try.func93 (by kernel_rfl)
theorem known100_FLine : Known Try.prog 100 := Known.mk' Try.func100 (by kernel_rfl)
theorem known76_FLine : Known Try.prog 76 := Known.mk' Try.func76 (by kernel_rfl)
theorem known95_FLine : Known Try.prog 95 := Known.mk' Try.func95 (by kernel_rfl)
theorem known96_FLine : Known Try.prog 96 := Known.mk' Try.func96 (by kernel_rfl)
theorem known101_FLine : Known Try.prog 101 := Known.mk' Try.func101 (by kernel_rfl)
theorem known97_FLine : Known Try.prog 97 := Known.mk' Try.func97 (by kernel_rfl)
theorem known162_FLine : Known Try.prog 162 := Known.mk' Try.func162 (by kernel_rfl)
theorem known102_FLine : Known Try.prog 102 := Known.mk' Try.func102 (by kernel_rfl)
theorem known23_FLine : Known Try.prog 23 := Known.mk' Try.func23 (by kernel_rfl)
theorem sz45_FLine : (Try.prog.info? 45).map (·.size) = some 3 := by kernel_rfl
theorem known26_FLine : Known Try.prog 26 := Known.mk' Try.func26 (by kernel_rfl)
theorem known28_FLine : Known Try.prog 28 := Known.mk' Try.func28 (by kernel_rfl)
theorem known36_FLine : Known Try.prog 36 := Known.mk' Try.func36 (by kernel_rfl)
theorem known37_FLine : Known Try.prog 37 := Known.mk' Try.func37 (by kernel_rfl)
theorem known32_FLine : Known Try.prog 32 := Known.mk' Try.func32 (by kernel_rfl)
theorem known31_FLine : Known Try.prog 31 := Known.mk' Try.func31 (by kernel_rfl)
theorem known38_FLine : Known Try.prog 38 := Known.mk' Try.func38 (by kernel_rfl)
theorem known39_FLine : Known Try.prog 39 := Known.mk' Try.func39 (by kernel_rfl)
theorem known40_FLine : Known Try.prog 40 := Known.mk' Try.func40 (by kernel_rfl)
attribute [local irreducible] fop fcmp fconv sqrt32 fneg segF fieldS fieldI List.getD unit3 dirV dirI midI stepV stepOk dirOk stK lnL lnM lnR flineV flineOk

theorem c_l06Count {w : World} {n : Int} : Pure Try.prog 99 [.int .i64 n] w (.bool (decide (0 ≤ n ∧ n ≤ 63))) := by
  refine Pure.enter Try.func99 rfl Try.ntmps99 (Nat.le_of_ble_eq_true rfl) ?_
  refine V.seq ?_
  refine V.region ?_
  refine VL.r (.inl rfl) rfl (by decide) (yr_assign (u := .bool false) rfl rfl) ?_
  refine VL.nil ?_
  refine VE.then_wp ?_
  refine V.seq ?_
  refine V.region ?_
  refine VL.r (.inl rfl) rfl (by decide) (yr_move rfl rfl) ?_
  refine VL.q (.inl rfl) rfl (by decide) (yq_callf rfl known166_FLine (.cons rfl (.cons rfl (.cons rfl .nil))) (fun w hw => c_l00In)) ?_
  refine VL.r (.inl rfl) rfl (by decide) (yr_assign rfl rfl) ?_
  refine VL.nil ?_
  refine VE.then_wp ?_
  refine V.ret ?_
  refine ret1 rfl rfl (fun w1 hw => ?_)
  exact ⟨rfl, hw.below⟩

theorem c_isLC {w : World} {n : Int} : Pure Try.prog 101 [.int .i64 n] w (.bool (decide (0 ≤ n ∧ n ≤ 63))) := by
  refine Pure.enter Try.func101 rfl Try.ntmps101 (Nat.le_of_ble_eq_true rfl) ?_
  refine V.seq ?_
  refine V.region ?_
  refine VL.r (.inl rfl) rfl (by decide) (yr_assign (u := .bool false) rfl rfl) ?_
  refine VL.nil ?_
  refine VE.then_wp ?_
  refine V.seq ?_
  refine V.region ?_
  refine VL.r (.inl rfl) rfl (by decide) (yr_move rfl rfl) ?_
  refine VL.q (.inl rfl) rfl (by decide) (yq_callf rfl known167_FLine (.cons rfl (.cons rfl (.cons rfl .nil))) (fun w hw => c_within)) ?_
  refine VL.r (.inl rfl) rfl (by decide) (yr_assign rfl rfl) ?_
  refine VL.nil ?_
  refine VE.then_wp ?_
  refine V.ret ?_
  refine ret1 rfl rfl (fun w1 hw => ?_)
  exact ⟨rfl, hw.below⟩

theorem c_l06Line {w : World} {q : Option Addr} {a : Option Addr} {c : Nat} {f : Nat → Option Addr × Nat} {ws : List Wr} {p1 p2 p3 : Nat} {st : Nat} {rn : Int} (hQ : Cl w q [.slice a ws.length c, .pointer none, .bool false]) (hA : Cl w a (whd f ws)) (hR : WRws w f ws) (hn : wbulk ws ≤ 1050000) (hv : wiresOk ws = true) (hp : fin3 (p1, p2, p3) = true) (hrn : 0 ≤ rn ∧ rn ≤ 63) : New Try.prog 100 [.pointer (some (adr q 0)), vv (p1, p2, p3), .float .f32 st, .int .i64 rn] w (fun p : Option Addr × Nat => .slice p.1 (lnR ws (p1, p2, p3) st rn.toNat).length p.2) (fun p => [⟨p.1, vl (lnR ws (p1, p2, p3) st rn.toNat), p.2 * 3, 53⟩]) := by
  refine New.enter Try.func100 rfl Try.ntmps100 (Nat.le_of_ble_eq_true rfl) ?_
  refine V.seq ?_
  refine V.region ?_
  refine VL.new1 (.inl rfl) rfl (by decide) (yn_box rfl rfl (.inr ⟨rfl, rfl⟩)) ?_
  intro b5
  refine VL.r (.inl rfl) rfl (by decide) (yr_assign (u := .slice none 0 0) rfl rfl) ?_
  refine VL.nil ?_
  refine VE.then_wp ?_
  refine V.seq ?_
  refine V.region ?_
  refine VL.q (.inl rfl) rfl (by decide) (yq_loadS rfl Try.underlying53 sz53_FLine rfl (by first | exact Sees.root (by assumption) | exact Sees.own (by repeat (first | exact List.mem_cons_self | exact List.mem_append_left _ (by assumption) | apply List.mem_cons_of_mem | apply List.mem_append_right)) | exact Sees.root (hR _ (by omega)) | exact Sees.own (RowsIn.mem (by repeat (first | exact RowsIn.here | exact RowsIn.last | apply RowsIn.there | apply RowsIn.thereS)) _ (by omega)) | exact Sees.own (WRowsIn.mem (by repeat (first | exact WRowsIn.here | exact WRowsIn.last | apply WRowsIn.there | apply WRowsIn.thereS)) _ (by omega))) rfl rfl rfl) ?_
  refine VL.new1 (.inl rfl) rfl (by decide) (yn_buildSlice rfl Try.underlying51 elt53_FLine rfl (by decide) (.cons rfl .nil) (by simp) rfl rfl) ?_
  intro b14
  refine VL.r (.inl rfl) rfl (by decide) (yr_assign rfl rfl) ?_
  refine VL.nil ?_
  refine VE.then_wp ?_
  refine V.seq ?_
  refine V.seq ?_
  refine V.region ?_
  refine VL.r (.inl rfl) rfl (by decide) (yr_assign (u := .int .i64 0) rfl rfl) ?_
  refine VL.nil ?_
  refine VE.then_wp ?_
  refine V.block ?_
  refine V.loopc (G := Nat × (Option Addr) × Nat) [(0, _), (2, _), (3, _)] (fun ⟨k, a9, c9⟩ => k ≤ rn.toNat ∧ (∀ j, j < k → (stK ws (p1, p2, p3) st (j + 1)).2 = true) ∧ (stK ws (p1, p2, p3) st k).2 = true ∧ fin3 (stK ws (p1, p2, p3) st k).1 = true) (fun ⟨k, a9, c9⟩ => [⟨a9, vl (lnL ws (p1, p2, p3) st k), c9 * 3, 53⟩, ⟨some ⟨b5, 0, none⟩, [.float .f32 ((p1, p2, p3)).1, .float .f32 ((p1, p2, p3)).2.1, .float .f32 ((p1, p2, p3)).2.2], 3, 53⟩]) (fun ⟨k, a9, c9⟩ => [(9, .slice a9 (k + 1) c9), (10, .int .i64 (k : Int))]) (fun ⟨k, a9, c9⟩ => rn.toNat - k) (0, some ⟨b14, 0, none⟩, 1) (.cons rfl (.cons rfl (.cons rfl .nil))) (.cons rfl (.cons (congrArg (fun i => some (Value.int .i64 i)) (by omega)) .nil)) ?_ ?_ ?_
  · exact (fun w hw => by dsimp only; rw [lnL_zero]; exact hw)
  · exact (by dsimp only; rw [stK_zero]; exact ⟨by omega, fun j h => by omega, rfl, hp⟩)
  rintro ⟨k, a9, c9⟩ ⟨hk, hI, hk2, hk3⟩
  show V _ _ _ [⟨a9, vl (lnL ws (p1, p2, p3) st k), c9 * 3, 53⟩, ⟨some ⟨b5, 0, none⟩, [.float .f32 ((p1, p2, p3)).1, .float .f32 ((p1, p2, p3)).2.1, .float .f32 ((p1, p2, p3)).2.2], 3, 53⟩] ([(9, .slice a9 (k + 1) c9), (10, .int .i64 (k : Int))] ++ [(0, _), (2, _), (3, _)]) _ _
  refine V.seq ?_
  refine V.seq ?_
  refine V.region ?_
  refine VL.r (.inl rfl) rfl (by decide) (yr_move rfl rfl) ?_
  refine VL.r (.inl rfl) rfl (by decide) (yr_move rfl rfl) ?_
  refine VL.r (.inl rfl) rfl (by decide) (yr_icmp rfl (.inr (.inr (.inl rfl))) rfl rfl) ?_
  refine VL.nil ?_
  refine VE.then_wp ?_
  refine V.cond rfl (fun h1 => ?_) (fun h1 => ?_)
  · skip
    replace h1 := ic_lss h1
    refine V.skip ?_
    refine VE.then_wp ?_
    refine V.seq ?_
    refine V.block ?_
    refine V.seq ?_
    refine V.region ?_
    refine VL.r (.inl rfl) rfl (by decide) (yr_move rfl rfl) ?_
    refine VL.r (.inl rfl) rfl (by decide) (yr_move rfl rfl) ?_
    refine VL.r (.inl rfl) rfl (by decide) (yr_move rfl rfl) ?_
    refine VL.q (.inl rfl) rfl (by decide) (yq_idxN (k := k) rfl Try.underlying51 sz53_FLine rfl rfl (by first | exact Sees.root (by assumption) | exact Sees.own (by repeat (first | exact List.mem_cons_self | exact List.mem_append_left _ (by assumption) | apply List.mem_cons_of_mem | apply List.mem_append_right)) | exact Sees.root (hR _ (by omega)) | exact Sees.own (RowsIn.mem (by repeat (first | exact RowsIn.here | exact RowsIn.last | apply RowsIn.there | apply RowsIn.thereS)) _ (by omega)) | exact Sees.own (WRowsIn.mem (by repeat (first | exact WRowsIn.here | exact WRowsIn.last | apply WRowsIn.there | apply WRowsIn.thereS)) _ (by omega))) (by first | rfl | omega | (push_cast; rfl) | (push_cast; omega) | exact tmod_nat _ _) (by rw [vl_length, lnL_length]) (by decide) (by omega)) ?_
    refine VL.q (.inl rfl) rfl (by decide) (show YQ _ _ _ _ _ (vv (stK ws (p1, p2, p3) st k).1) from by rw [← lnL_get (ws := ws) (p := (p1, p2, p3)) (st := st) (k := k) (i := k) (by omega)]; exact yq_loadV rfl Try.underlying53 sz53_FLine rfl (by first | exact Sees.root (by assumption) | exact Sees.own (by repeat (first | exact List.mem_cons_self | exact List.mem_append_left _ (by assumption) | apply List.mem_cons_of_mem | apply List.mem_append_right)) | exact Sees.root (hR _ (by omega)) | exact Sees.own (RowsIn.mem (by repeat (first | exact RowsIn.here | exact RowsIn.last | apply RowsIn.there | apply RowsIn.thereS)) _ (by omega)) | exact Sees.own (WRowsIn.mem (by repeat (first | exact WRowsIn.here | exact WRowsIn.last | apply WRowsIn.there | apply WRowsIn.thereS)) _ (by omega))) (by rw [lnL_length]; omega)) ?_
    refine VL.r (.inl rfl) rfl (by decide) (yr_move rfl rfl) ?_
    refine VL.q (.inl rfl) rfl (by decide) (yq_callf rfl known94_FLine (.cons rfl (.cons rfl (.cons rfl .nil))) (fun w hw => (c_l06Step (p1 := (stK ws (p1, p2, p3) st k).1.1) (p2 := (stK ws (p1, p2, p3) st k).1.2.1) (p3 := (stK ws (p1, p2, p3) st k).1.2.2) (st := st) (by first | exact Sees.root (by assumption) w hw | exact Sees.own (by repeat (first | exact List.mem_cons_self | exact List.mem_append_left _ (by assumption) | apply List.mem_cons_of_mem | apply List.mem_append_right)) w hw) (by first | exact Sees.root (by assumption) w hw | exact Sees.own (by repeat (first | exact List.mem_cons_self | exact List.mem_append_left _ (by assumption) | apply List.mem_cons_of_mem | apply List.mem_append_right)) w hw) (by first | exact WRws.root (by assumption) hw | exact WRws.own (by repeat (first | exact WRowsIn.here | exact WRowsIn.last | apply WRowsIn.there | apply WRowsIn.thereS)) hw) (by omega) (by assumption) hk3))) ?_
    refine VL.r (.inl rfl) rfl (by decide) (yr_move rfl rfl) ?_
    refine VL.r (.inl rfl) rfl (by decide) (yr_extract rfl rfl rfl (by nofun)) ?_
    refine VL.r (.inl rfl) rfl (by decide) (yr_extract rfl rfl rfl (by nofun)) ?_
    refine VL.new1 (.inl rfl) rfl (by decide) (yn_alloc rfl zero53_FLine rfl) ?_
    intro b11
    refine VL.s (.inl rfl) rfl (yc_store rfl sz53_FLine rfl rfl (by repeat (first | exact UpdF.here | apply UpdF.there | apply UpdF.thereS)) (.inr ⟨rfl, rfl⟩) rfl (by first | exact Nat.le_of_ble_eq_true rfl | simp) (by decide) rfl) ?_
    rintro ⟨⟩
    refine VL.r (.inl rfl) rfl (by decide) (yr_assign rfl rfl) ?_
    refine VL.nil ?_
    refine VE.then_wp ?_
    refine V.seq ?_
    refine V.seq ?_
    refine V.region ?_
    refine VL.r (.inl rfl) rfl (by decide) (yr_move rfl rfl) ?_
    refine VL.r (.inl rfl) rfl (by decide) (yr_not rfl rfl) ?_
    refine VL.nil ?_
    refine VE.then_wp ?_
    refine V.cond rfl (fun h2 => ?_) (fun h2 => ?_)
    · skip
      replace h2 := bnot_t h2
      refine V.exit ?_
      refine VE.then_exit ?_
      refine VE.block_on rfl ?_
      refine VE.then_exit ?_
      refine VE.then_exit ?_
      refine VE.block_here ?_
      refine VE.then_wp ?_
      refine V.seq ?_
      refine V.region ?_
      refine VL.r (.inl rfl) rfl (by decide) (yr_move rfl rfl) ?_
      refine VL.r (.inl rfl) rfl (by decide) (yr_assign rfl rfl) ?_
      refine VL.nil ?_
      refine VE.then_wp ?_
      refine V.ret ?_
      refine ret1 rfl rfl (fun w1 hw => ?_)
      first
        | (obtain rfl : k = rn.toNat := by omega
           have hr9 := lnR_all (ws := ws) (p := (p1, p2, p3)) (st := st) hI
           exact ⟨(a9, c9), by rw [hr9, lnL_length], by rw [hr9]; exact hw.out1⟩)
        | (have hr9 := lnR_at (ws := ws) (p := (p1, p2, p3)) (st := st) (n := rn.toNat) hI (by omega) (by rw [stK_succ hk2]; assumption)
           exact ⟨(a9, c9), by rw [hr9, lnL_length], by rw [hr9]; exact (hw.sub (List.sublist_cons_self _ _)).out1⟩)
    · skip
      replace h2 := bnot_f h2
      refine V.skip ?_
      refine VE.then_wp ?_
      refine V.region ?_
      refine VL.r (.inl rfl) rfl (by decide) (yr_move rfl rfl) ?_
      refine VL.q (.inl rfl) rfl (by decide) (yq_loadS rfl Try.underlying53 sz53_FLine rfl (by first | exact Sees.root (by assumption) | exact Sees.own (by repeat (first | exact List.mem_cons_self | exact List.mem_append_left _ (by assumption) | apply List.mem_cons_of_mem | apply List.mem_append_right)) | exact Sees.root (hR _ (by omega)) | exact Sees.own (RowsIn.mem (by repeat (first | exact RowsIn.here | exact RowsIn.last | apply RowsIn.there | apply RowsIn.thereS)) _ (by omega)) | exact Sees.own (WRowsIn.mem (by repeat (first | exact WRowsIn.here | exact WRowsIn.last | apply WRowsIn.there | apply WRowsIn.thereS)) _ (by omega))) rfl rfl rfl) ?_
      refine VL.new1 (.inl rfl) rfl (by decide) (yn_buildSlice rfl Try.underlying51 elt53_FLine rfl (by decide) (.cons rfl .nil) (by simp) rfl rfl) ?_
      intro b34
      refine VL.c (.inl rfl) rfl (by decide) (yc_appendz 3 rfl rfl Try.underlying51 elt53_FLine rfl rfl (by repeat (first | exact UpdF.here | apply UpdF.there | apply UpdF.thereS)) (by first | exact Sees.root (by assumption) | exact Sees.own (by repeat (first | exact List.mem_cons_self | exact List.mem_append_left _ (by assumption) | apply List.mem_cons_of_mem | apply List.mem_append_right)) | exact Sees.root (hR _ (by omega)) | exact Sees.own (RowsIn.mem (by repeat (first | exact RowsIn.here | exact RowsIn.last | apply RowsIn.there | apply RowsIn.thereS)) _ (by omega)) | exact Sees.own (WRowsIn.mem (by repeat (first | exact WRowsIn.here | exact WRowsIn.last | apply WRowsIn.there | apply WRowsIn.thereS)) _ (by omega))) rfl (by rw [vl_length, lnL_length]) rfl (vl_scal _) rfl (by omega) (by omega)) ?_
      rintro ⟨a35, c35⟩
      refine VL.r (.inl rfl) rfl (by decide) (yr_assign rfl rfl) ?_
      refine VL.nil ?_
      refine VE.block_normal ?_
      refine VE.then_wp ?_
      refine V.region ?_
      refine VL.r (.inl rfl) rfl (by decide) (yr_move rfl rfl) ?_
      refine VL.r (.inl rfl) rfl (by decide) (yr_int rfl rfl rfl (.inl ⟨rfl, wrap_in (by omega)⟩)) ?_
      refine VL.r (.inl rfl) rfl (by decide) (yr_assign rfl rfl) ?_
      refine VL.nil ?_
      refine VE.round (k + 1, a35, c35) ?_ ?_ ?_ ?_ ?_
      · exact (.cons rfl (.cons (congrArg (fun i => some (Value.int .i64 i)) (by omega)) .nil))
      · exact (.cons rfl (.cons rfl (.cons rfl .nil)))
      · exact (fun w hw => by have h9 := hw.sub ((List.sublist_cons_self _ _).trans (List.sublist_cons_self _ _)); have e9 := stK_box (ws := ws) (p := (p1, p2, p3)) (h := st) (k := k) hk2; dsimp only; rw [← lnL_snoc, ← e9]; exact h9)
      · exact ⟨by omega, fun j hj => by rcases Nat.lt_or_ge j k with h | h; exact hI j h; obtain rfl : j = k := (by omega); exact (stK_ok hk2 (by assumption)).1, stK_ok hk2 (by assumption)⟩
      · (try dsimp only); omega
  · skip
    replace h1 := ic_lss' h1
    refine V.exit ?_
    refine VE.then_exit ?_
    refine VE.then_exit ?_
    refine VE.block_here ?_
    refine VE.then_wp ?_
    refine V.seq ?_
    refine V.region ?_
    refine VL.r (.inl rfl) rfl (by decide) (yr_move rfl rfl) ?_
    refine VL.r (.inl rfl) rfl (by decide) (yr_assign rfl rfl) ?_
    refine VL.nil ?_
    refine VE.then_wp ?_
    refine V.ret ?_
    refine ret1 rfl rfl (fun w1 hw => ?_)
    first
      | (obtain rfl : k = rn.toNat := by omega
         have hr9 := lnR_all (ws := ws) (p := (p1, p2, p3)) (st := st) hI
         exact ⟨(a9, c9), by rw [hr9, lnL_length], by rw [hr9]; exact hw.out1⟩)
      | (have hr9 := lnR_at (ws := ws) (p := (p1, p2, p3)) (st := st) (n := rn.toNat) hI (by omega) (by rw [stK_succ hk2]; assumption)
         exact ⟨(a9, c9), by rw [hr9, lnL_length], by rw [hr9]; exact (hw.sub (List.sublist_cons_self _ _)).out1⟩)

theorem c_line {w : World} {g : FuncId} {cs : Array Value} {ws : List Wr} {p1 p2 p3 : Nat} {st : Nat} {rn : Int} (hg : Known Try.prog g) (hF : ∀ w', Below w.heap.size w w' → ∀ q : V3, Pure Try.prog g ([vv q] ++ cs.toList.map cn) w' (.tuple #[vv (fieldI ws q), .bool (fin3 q && fin3 (fieldI ws q))])) (hp : fin3 (p1, p2, p3) = true) (hrn : 0 ≤ rn ∧ rn ≤ 63) : New Try.prog 102 [.func (.func g) #[] cs, vv (p1, p2, p3), .float .f32 st, .int .i64 rn] w (fun p : Option Addr × Nat => .slice p.1 (lnR ws (p1, p2, p3) st rn.toNat).length p.2) (fun p => [⟨p.1, vl (lnR ws (p1, p2, p3) st rn.toNat), p.2 * 3, 53⟩]) := by
  refine New.enter Try.func102 rfl Try.ntmps102 (Nat.le_of_ble_eq_true rfl) ?_
  refine V.seq ?_
  refine V.region ?_
  refine VL.new1 (.inl rfl) rfl (by decide) (yn_box rfl rfl (.inr ⟨rfl, rfl⟩)) ?_
  intro b5
  refine VL.r (.inl rfl) rfl (by decide) (yr_assign (u := .slice none 0 0) rfl rfl) ?_
  refine VL.nil ?_
  refine VE.then_wp ?_
  refine V.seq ?_
  refine V.region ?_
  refine VL.q (.inl rfl) rfl (by decide) (yq_loadS rfl Try.underlying53 sz53_FLine rfl (by first | exact Sees.root (by assumption) | exact Sees.own (by repeat (first | exact List.mem_cons_self | exact List.mem_append_left _ (by assumption) | apply List.mem_cons_of_mem | apply List.mem_append_right)) | exact Sees.root (hR _ (by omega)) | exact Sees.own (RowsIn.mem (by repeat (first | exact RowsIn.here | exact RowsIn.last | apply RowsIn.there | apply RowsIn.thereS)) _ (by omega)) | exact Sees.own (WRowsIn.mem (by repeat (first | exact WRowsIn.here | exact WRowsIn.last | apply WRowsIn.there | apply WRowsIn.thereS)) _ (by omega))) rfl rfl rfl) ?_
  refine VL.new1 (.inl rfl) rfl (by decide) (yn_buildSlice rfl Try.underlying51 elt53_FLine rfl (by decide) (.cons rfl .nil) (by simp) rfl rfl) ?_
  intro b13
  refine VL.r (.inl rfl) rfl (by decide) (yr_assign rfl rfl) ?_
  refine VL.nil ?_
  refine VE.then_wp ?_
  refine V.seq ?_
  refine V.seq ?_
  refine V.region ?_
  refine VL.r (.inl rfl) rfl (by decide) (yr_move rfl rfl) ?_
  refine VL.r (.inl rfl) rfl (by decide) (yr_move (u := .int .i64 0) rfl rfl) ?_
  refine VL.nil ?_
  refine VE.then_wp ?_
  refine V.block ?_
  refine V.loopc (G := Nat × (Option Addr) × Nat) [(0, _), (2, _), (14, _)] (fun ⟨k, a9, c9⟩ => k ≤ rn.toNat ∧ (∀ j, j < k → (stK ws (p1, p2, p3) st (j + 1)).2 = true) ∧ (stK ws (p1, p2, p3) st k).2 = true ∧ fin3 (stK ws (p1, p2, p3) st k).1 = true) (fun ⟨k, a9, c9⟩ => [⟨a9, vl (lnL ws (p1, p2, p3) st k), c9 * 3, 53⟩, ⟨some ⟨b5, 0, none⟩, [.float .f32 ((p1, p2, p3)).1, .float .f32 ((p1, p2, p3)).2.1, .float .f32 ((p1, p2, p3)).2.2], 3, 53⟩]) (fun ⟨k, a9, c9⟩ => [(9, .slice a9 (k + 1) c9), (15, .int .i64 (k : Int))]) (fun ⟨k, a9, c9⟩ => rn.toNat - k) (0, some ⟨b13, 0, none⟩, 1) (.cons rfl (.cons rfl (.cons rfl .nil))) (.cons rfl (.cons (congrArg (fun i => some (Value.int .i64 i)) (by omega)) .nil)) ?_ ?_ ?_
  · exact (fun w hw => by dsimp only; rw [lnL_zero]; exact hw)
  · exact (by dsimp only; rw [stK_zero]; exact ⟨by omega, fun j h => by omega, rfl, hp⟩)
  rintro ⟨k, a9, c9⟩ ⟨hk, hI, hk2, hk3⟩
  show V _ _ _ [⟨a9, vl (lnL ws (p1, p2, p3) st k), c9 * 3, 53⟩, ⟨some ⟨b5, 0, none⟩, [.float .f32 ((p1, p2, p3)).1, .float .f32 ((p1, p2, p3)).2.1, .float .f32 ((p1, p2, p3)).2.2], 3, 53⟩] ([(9, .slice a9 (k + 1) c9), (15, .int .i64 (k : Int))] ++ [(0, _), (2, _), (14, _)]) _ _
  refine V.seq ?_
  refine V.region ?_
  refine VL.r (.inl rfl) rfl (by decide) (yr_icmp rfl (.inr (.inr (.inl rfl))) rfl rfl) ?_
  refine VL.nil ?_
  refine VE.then_wp ?_
  refine V.seq ?_
  refine V.cond rfl (fun h1 => ?_) (fun h1 => ?_)
  · skip
    replace h1 := ic_lss h1
    refine V.skip ?_
    refine VE.then_wp ?_
    refine V.seq ?_
    refine V.block ?_
    refine V.seq ?_
    refine V.region ?_
    refine VL.r (.inl rfl) rfl (by decide) (yr_move rfl rfl) ?_
    refine VL.r (.inl rfl) rfl (by decide) (yr_move rfl rfl) ?_
    refine VL.r (.inl rfl) rfl (by decide) (yr_move rfl rfl) ?_
    refine VL.r (.inl rfl) rfl (by decide) (yr_len rfl Try.underlying51 rfl) ?_
    refine VL.r (.inl rfl) rfl (by decide) (yr_int rfl rfl rfl (.inr (.inl ⟨rfl, wrap_in (by omega)⟩))) ?_
    refine VL.q (.inl rfl) rfl (by decide) (yq_idxN (k := k) rfl Try.underlying51 sz53_FLine rfl rfl (by first | exact Sees.root (by assumption) | exact Sees.own (by repeat (first | exact List.mem_cons_self | exact List.mem_append_left _ (by assumption) | apply List.mem_cons_of_mem | apply List.mem_append_right)) | exact Sees.root (hR _ (by omega)) | exact Sees.own (RowsIn.mem (by repeat (first | exact RowsIn.here | exact RowsIn.last | apply RowsIn.there | apply RowsIn.thereS)) _ (by omega)) | exact Sees.own (WRowsIn.mem (by repeat (first | exact WRowsIn.here | exact WRowsIn.last | apply WRowsIn.there | apply WRowsIn.thereS)) _ (by omega))) (by first | rfl | omega | (push_cast; rfl) | (push_cast; omega) | exact tmod_nat _ _) (by rw [vl_length, lnL_length]) (by decide) (by omega)) ?_
    refine VL.q (.inl rfl) rfl (by decide) (show YQ _ _ _ _ _ (vv (stK ws (p1, p2, p3) st k).1) from by rw [← lnL_get (ws := ws) (p := (p1, p2, p3)) (st := st) (k := k) (i := k) (by omega)]; exact yq_loadV rfl Try.underlying53 sz53_FLine rfl (by first | exact Sees.root (by assumption) | exact Sees.own (by repeat (first | exact List.mem_cons_self | exact List.mem_append_left _ (by assumption) | apply List.mem_cons_of_mem | apply List.mem_append_right)) | exact Sees.root (hR _ (by omega)) | exact Sees.own (RowsIn.mem (by repeat (first | exact RowsIn.here | exact RowsIn.last | apply RowsIn.there | apply RowsIn.thereS)) _ (by omega)) | exact Sees.own (WRowsIn.mem (by repeat (first | exact WRowsIn.here | exact WRowsIn.last | apply WRowsIn.there | apply WRowsIn.thereS)) _ (by omega))) (by rw [lnL_length]; omega)) ?_
    refine VL.r (.inl rfl) rfl (by decide) (yr_move rfl rfl) ?_
    refine VL.q (.inl rfl) rfl (by decide) (yq_callf rfl known98_FLine (.cons rfl (.cons rfl (.cons rfl .nil))) (fun w hw => (c_step (p1 := (stK ws (p1, p2, p3) st k).1.1) (p2 := (stK ws (p1, p2, p3) st k).1.2.1) (p3 := (stK ws (p1, p2, p3) st k).1.2.2) (st := st) hg (fun w1 hb => hF w1 (hw.below.trans (hb.mono hw.below.size)))))) ?_
    refine VL.r (.inl rfl) rfl (by decide) (yr_move rfl rfl) ?_
    refine VL.r (.inl rfl) rfl (by decide) (yr_extract rfl rfl rfl (by nofun)) ?_
    refine VL.r (.inl rfl) rfl (by decide) (yr_extract rfl rfl rfl (by nofun)) ?_
    refine VL.new1 (.inl rfl) rfl (by decide) (yn_alloc rfl zero53_FLine rfl) ?_
    intro b10
    refine VL.s (.inl rfl) rfl (yc_store rfl sz53_FLine rfl rfl (by repeat (first | exact UpdF.here | apply UpdF.there | apply UpdF.thereS)) (.inr ⟨rfl, rfl⟩) rfl (by first | exact Nat.le_of_ble_eq_true rfl | simp) (by decide) rfl) ?_
    rintro ⟨⟩
    refine VL.r (.inl rfl) rfl (by decide) (yr_assign rfl rfl) ?_
    refine VL.nil ?_
    refine VE.then_wp ?_
    refine V.seq ?_
    refine V.seq ?_
    refine V.region ?_
    refine VL.r (.inl rfl) rfl (by decide) (yr_move rfl rfl) ?_
    refine VL.r (.inl rfl) rfl (by decide) (yr_not rfl rfl) ?_
    refine VL.nil ?_
    refine VE.then_wp ?_
    refine V.cond rfl (fun h2 => ?_) (fun h2 => ?_)
    · skip
      replace h2 := bnot_t h2
      refine V.exit ?_
      refine VE.then_exit ?_
      refine VE.block_on rfl ?_
      refine VE.then_exit ?_
      refine VE.then_exit ?_
      refine VE.block_here ?_
      refine VE.then_wp ?_
      refine V.seq ?_
      refine V.region ?_
      refine VL.r (.inl rfl) rfl (by decide) (yr_move rfl rfl) ?_
      refine VL.r (.inl rfl) rfl (by decide) (yr_assign rfl rfl) ?_
      refine VL.nil ?_
      refine VE.then_wp ?_
      refine V.ret ?_
      refine ret1 rfl rfl (fun w1 hw => ?_)
      first
        | (obtain rfl : k = rn.toNat := by omega
           have hr9 := lnR_all (ws := ws) (p := (p1, p2, p3)) (st := st) hI
           exact ⟨(a9, c9), by rw [hr9, lnL_length], by rw [hr9]; exact hw.out1⟩)
        | (have hr9 := lnR_at (ws := ws) (p := (p1, p2, p3)) (st := st) (n := rn.toNat) hI (by omega) (by rw [stK_succ hk2]; assumption)
           exact ⟨(a9, c9), by rw [hr9, lnL_length], by rw [hr9]; exact (hw.sub (List.sublist_cons_self _ _)).out1⟩)
    · skip
      replace h2 := bnot_f h2
      refine V.skip ?_
      refine VE.then_wp ?_
      refine V.region ?_
      refine VL.r (.inl rfl) rfl (by decide) (yr_move rfl rfl) ?_
      refine VL.q (.inl rfl) rfl (by decide) (yq_loadS rfl Try.underlying53 sz53_FLine rfl (by first | exact Sees.root (by assumption) | exact Sees.own (by repeat (first | exact List.mem_cons_self | exact List.mem_append_left _ (by assumption) | apply List.mem_cons_of_mem | apply List.mem_append_right)) | exact Sees.root (hR _ (by omega)) | exact Sees.own (RowsIn.mem (by repeat (first | exact RowsIn.here | exact RowsIn.last | apply RowsIn.there | apply RowsIn.thereS)) _ (by omega)) | exact Sees.own (WRowsIn.mem (by repeat (first | exact WRowsIn.here | exact WRowsIn.last | apply WRowsIn.there | apply WRowsIn.thereS)) _ (by omega))) rfl rfl rfl) ?_
      refine VL.new1 (.inl rfl) rfl (by decide) (yn_buildSlice rfl Try.underlying51 elt53_FLine rfl (by decide) (.cons rfl .nil) (by simp) rfl rfl) ?_
      intro b33
      refine VL.c (.inl rfl) rfl (by decide) (yc_appendz 3 rfl rfl Try.underlying51 elt53_FLine rfl rfl (by repeat (first | exact UpdF.here | apply UpdF.there | apply UpdF.thereS)) (by first | exact Sees.root (by assumption) | exact Sees.own (by repeat (first | exact List.mem_cons_self | exact List.mem_append_left _ (by assumption) | apply List.mem_cons_of_mem | apply List.mem_append_right)) | exact Sees.root (hR _ (by omega)) | exact Sees.own (RowsIn.mem (by repeat (first | exact RowsIn.here | exact RowsIn.last | apply RowsIn.there | apply RowsIn.thereS)) _ (by omega)) | exact Sees.own (WRowsIn.mem (by repeat (first | exact WRowsIn.here | exact WRowsIn.last | apply WRowsIn.there | apply WRowsIn.thereS)) _ (by omega))) rfl (by rw [vl_length, lnL_length]) rfl (vl_scal _) rfl (by omega) (by omega)) ?_
      rintro ⟨a34, c34⟩
      refine VL.r (.inl rfl) rfl (by decide) (yr_assign rfl rfl) ?_
      refine VL.nil ?_
      refine VE.block_normal ?_
      refine VE.then_wp ?_
      refine V.region ?_
      refine VL.r (.inl rfl) rfl (by decide) (yr_int rfl rfl rfl (.inl ⟨rfl, wrap_in (by omega)⟩)) ?_
      refine VL.r (.inl rfl) rfl (by decide) (yr_move rfl rfl) ?_
      refine VL.nil ?_
      refine VE.round (k + 1, a34, c34) ?_ ?_ ?_ ?_ ?_
      · exact (.cons rfl (.cons (congrArg (fun i => some (Value.int .i64 i)) (by omega)) .nil))
      · exact (.cons rfl (.cons rfl (.cons rfl .nil)))
      · exact (fun w hw => by have h9 := hw.sub ((List.sublist_cons_self _ _).trans (List.sublist_cons_self _ _)); have e9 := stK_box (ws := ws) (p := (p1, p2, p3)) (h := st) (k := k) hk2; dsimp only; rw [← lnL_snoc, ← e9]; exact h9)
      · exact ⟨by omega, fun j hj => by rcases Nat.lt_or_ge j k with h | h; exact hI j h; obtain rfl : j = k := (by omega); exact (stK_ok hk2 (by assumption)).1, stK_ok hk2 (by assumption)⟩
      · (try dsimp only); omega
  · skip
    replace h1 := ic_lss' h1
    refine V.exit ?_
    refine VE.then_exit ?_
    refine VE.then_exit ?_
    refine VE.block_here ?_
    refine VE.then_wp ?_
    refine V.seq ?_
    refine V.region ?_
    refine VL.r (.inl rfl) rfl (by decide) (yr_move rfl rfl) ?_
    refine VL.r (.inl rfl) rfl (by decide) (yr_assign rfl rfl) ?_
    refine VL.nil ?_
    refine VE.then_wp ?_
    refine V.ret ?_
    refine ret1 rfl rfl (fun w1 hw => ?_)
    first
      | (obtain rfl : k = rn.toNat := by omega
         have hr9 := lnR_all (ws := ws) (p := (p1, p2, p3)) (st := st) hI
         exact ⟨(a9, c9), by rw [hr9, lnL_length], by rw [hr9]; exact hw.out1⟩)
      | (have hr9 := lnR_at (ws := ws) (p := (p1, p2, p3)) (st := st) (n := rn.toNat) hI (by omega) (by rw [stK_succ hk2]; assumption)
         exact ⟨(a9, c9), by rw [hr9, lnL_length], by rw [hr9]; exact (hw.sub (List.sublist_cons_self _ _)).out1⟩)

theorem c_specFL {w : World} {a : Option Addr} {c : Nat} {f : Nat → Option Addr × Nat} {ws : List Wr} {p1 p2 p3 : Nat} {st : Nat} {rn : Int} (hA : Cl w a (whd f ws)) (hR : WRws w f ws) (hn : wbulk ws ≤ 1050000) : New Try.prog 36 [.slice a ws.length c, vv (p1, p2, p3), .float .f32 st, .int .i64 rn] w (fun p : Option Addr × Nat => .tuple #[.slice p.1 (flineV ws (p1, p2, p3) st rn).length p.2, .bool (flineOk ws (p1, p2, p3) st rn)]) (fun p => [⟨p.1, vl (flineV ws (p1, p2, p3) st rn), p.2 * 3, 53⟩]) := by
  refine New.enter Try.func36 rfl Try.ntmps36 (Nat.le_of_ble_eq_true rfl) ?_
  have hwl : ws.length ≤ wbulk ws := by unfold wbulk; omega
  have hrw : ∀ k, k < ws.length → (ws.getD k zw).1.length ≤ 1050000 := fun k hk => by have := wbulk_row hk; omega
  refine V.seq ?_
  refine V.region ?_
  refine VL.new1 (.inl rfl) rfl (by decide) (yn_box rfl rfl (.inr ⟨rfl, rfl⟩)) ?_
  intro b5
  refine VL.r (.inl rfl) rfl (by decide) (yr_assign (u := .slice none 0 0) rfl rfl) ?_
  refine VL.r (.inl rfl) rfl (by decide) (yr_assign (u := .bool false) rfl rfl) ?_
  refine VL.nil ?_
  refine VE.then_wp ?_
  refine V.seq ?_
  refine V.seq ?_
  refine V.region ?_
  refine VL.r (.inl rfl) rfl (by decide) (yr_move rfl rfl) ?_
  refine VL.q (.inl rfl) rfl (by decide) (yq_callf rfl known91_FLine (.cons rfl .nil) (fun w hw => (c_l02Are (by first | exact Sees.root (by assumption) w hw | exact Sees.own (by repeat (first | exact List.mem_cons_self | exact List.mem_append_left _ (by assumption) | apply List.mem_cons_of_mem | apply List.mem_append_right)) w hw) (by first | exact WRws.root (by assumption) hw | exact WRws.own (by repeat (first | exact WRowsIn.here | exact WRowsIn.last | apply WRowsIn.there | apply WRowsIn.thereS)) hw) (by omega)))) ?_
  refine VL.r (.inl rfl) rfl (by decide) (yr_not rfl rfl) ?_
  refine VL.r (.inl rfl) rfl (by decide) (yr_move rfl rfl) ?_
  refine VX.split 13 _ rfl (fun h1 => ?_) (fun h1 => ?_)
  · skip
    replace h1 := bnot_t h1
    refine VL.no rfl rfl rfl rfl rfl (by decide) ?_
    refine VL.no rfl rfl rfl rfl rfl (by decide) ?_
    refine VL.no rfl rfl rfl rfl rfl (by decide) ?_
    refine VL.r (.inl rfl) rfl (by decide) (yr_pick_t (u := .bool true) rfl rfl rfl) ?_
    refine VL.r (.inl rfl) rfl (by decide) (yr_move rfl rfl) ?_
    refine VL.no rfl rfl rfl rfl rfl (by decide) ?_
    refine VL.no rfl rfl rfl rfl rfl (by decide) ?_
    refine VL.no rfl rfl rfl rfl rfl (by decide) ?_
    refine VL.r (.inl rfl) rfl (by decide) (yr_pick_t (u := .bool true) rfl rfl rfl) ?_
    refine VL.r (.inl rfl) rfl (by decide) (yr_move rfl rfl) ?_
    refine VL.no rfl rfl rfl rfl rfl (by decide) ?_
    refine VL.no rfl rfl rfl rfl rfl (by decide) ?_
    refine VL.no rfl rfl rfl rfl rfl (by decide) ?_
    refine VL.r (.inl rfl) rfl (by decide) (yr_pick_t (u := .bool true) rfl rfl rfl) ?_
    refine VL.nil ?_
    refine VE.then_wp ?_
    refine V.condT rfl ?_
    refine V.seq ?_
    refine V.region ?_
    refine VL.r (.inl rfl) rfl (by decide) (yr_assign (u := .slice none 0 0) rfl rfl) ?_
    refine VL.r (.inl rfl) rfl (by decide) (yr_assign (u := .bool false) rfl rfl) ?_
    refine VL.nil ?_
    refine VE.then_wp ?_
    refine V.ret ?_
    refine VE.then_ret ?_
    refine ret2 rfl rfl rfl (by nofun) (by nofun) (fun w1 hw => ?_)
    first
      | (have hs : (flineOk ws (p1, p2, p3) st rn) = true := fline_yes (by assumption) (by assumption) (by assumption) (by assumption)
         exact ⟨(a33, c33), by rw [flineV_yes hs, hs], by rw [flineV_yes hs]; exact hw.outs (((List.nil_sublist _)).cons_cons _)⟩)
      | (have hs : (flineOk ws (p1, p2, p3) st rn) = false := by first | exact fline_1 (by assumption) | exact fline_2 (by assumption) | exact fline_3 (by assumption) | exact fline_4 (by assumption)
         exact ⟨(none, 0), by rw [flineV_no hs, hs]; rfl, hw.below, by rw [flineV_no hs]; simp [vl, Ent.at], List.pairwise_singleton _ _⟩)
  · skip
    replace h1 := bnot_f h1
    refine VL.q (.inr ⟨_, _, _, rfl, rfl, rfl⟩) rfl (by decide) (yq_loadS rfl Try.underlying53 sz53_FLine rfl (by first | exact Sees.root (by assumption) | exact Sees.own (by repeat (first | exact List.mem_cons_self | exact List.mem_append_left _ (by assumption) | apply List.mem_cons_of_mem | apply List.mem_append_right)) | exact Sees.root (hR _ (by omega)) | exact Sees.own (RowsIn.mem (by repeat (first | exact RowsIn.here | exact RowsIn.last | apply RowsIn.there | apply RowsIn.thereS)) _ (by omega)) | exact Sees.own (WRowsIn.mem (by repeat (first | exact WRowsIn.here | exact WRowsIn.last | apply WRowsIn.there | apply WRowsIn.thereS)) _ (by omega))) rfl rfl rfl) ?_
    refine VL.q (.inr ⟨_, _, _, rfl, rfl, rfl⟩) rfl (by decide) (yq_callf rfl known84_FLine (.cons rfl .nil) (fun w hw => c_fin3S)) ?_
    refine VL.r (.inr ⟨_, _, _, rfl, rfl, rfl⟩) rfl (by decide) (yr_not rfl rfl) ?_
    refine VL.r (.inl rfl) rfl (by decide) (yr_pick_f rfl rfl rfl) ?_
    refine VL.r (.inl rfl) rfl (by decide) (yr_move rfl rfl) ?_
    refine VX.split 18 _ rfl (fun h3 => ?_) (fun h3 => ?_)
    · skip
      replace h3 := bnot_t h3
      refine VL.no rfl rfl rfl rfl rfl (by decide) ?_
      refine VL.no rfl rfl rfl rfl rfl (by decide) ?_
      refine VL.no rfl rfl rfl rfl rfl (by decide) ?_
      refine VL.r (.inl rfl) rfl (by decide) (yr_pick_t (u := .bool true) rfl rfl rfl) ?_
      refine VL.r (.inl rfl) rfl (by decide) (yr_move rfl rfl) ?_
      refine VL.no rfl rfl rfl rfl rfl (by decide) ?_
      refine VL.no rfl rfl rfl rfl rfl (by decide) ?_
      refine VL.no rfl rfl rfl rfl rfl (by decide) ?_
      refine VL.r (.inl rfl) rfl (by decide) (yr_pick_t (u := .bool true) rfl rfl rfl) ?_
      refine VL.nil ?_
      refine VE.then_wp ?_
      refine V.condT rfl ?_
      refine V.seq ?_
      refine V.region ?_
      refine VL.r (.inl rfl) rfl (by decide) (yr_assign (u := .slice none 0 0) rfl rfl) ?_
      refine VL.r (.inl rfl) rfl (by decide) (yr_assign (u := .bool false) rfl rfl) ?_
      refine VL.nil ?_
      refine VE.then_wp ?_
      refine V.ret ?_
      refine VE.then_ret ?_
      refine ret2 rfl rfl rfl (by nofun) (by nofun) (fun w1 hw => ?_)
      first
        | (have hs : (flineOk ws (p1, p2, p3) st rn) = true := fline_yes (by assumption) (by assumption) (by assumption) (by assumption)
           exact ⟨(a33, c33), by rw [flineV_yes hs, hs], by rw [flineV_yes hs]; exact hw.outs (((List.nil_sublist _)).cons_cons _)⟩)
        | (have hs : (flineOk ws (p1, p2, p3) st rn) = false := by first | exact fline_1 (by assumption) | exact fline_2 (by assumption) | exact fline_3 (by assumption) | exact fline_4 (by assumption)
           exact ⟨(none, 0), by rw [flineV_no hs, hs]; rfl, hw.below, by rw [flineV_no hs]; simp [vl, Ent.at], List.pairwise_singleton _ _⟩)
    · skip
      replace h3 := bnot_f h3
      refine VL.r (.inr ⟨_, _, _, rfl, rfl, rfl⟩) rfl (by decide) (yr_move rfl rfl) ?_
      refine VL.q (.inr ⟨_, _, _, rfl, rfl, rfl⟩) rfl (by decide) (yq_callf rfl known92_FLine (.cons rfl .nil) (fun w hw => c_l01Finite _)) ?_
      refine VL.r (.inr ⟨_, _, _, rfl, rfl, rfl⟩) rfl (by decide) (yr_not rfl rfl) ?_
      refine VL.r (.inl rfl) rfl (by decide) (yr_pick_f rfl rfl rfl) ?_
      refine VL.r (.inl rfl) rfl (by decide) (yr_move rfl rfl) ?_
      refine VX.split 23 _ rfl (fun h5 => ?_) (fun h5 => ?_)
      · skip
        replace h5 := bnot_t h5
        refine VL.no rfl rfl rfl rfl rfl (by decide) ?_
        refine VL.no rfl rfl rfl rfl rfl (by decide) ?_
        refine VL.no rfl rfl rfl rfl rfl (by decide) ?_
        refine VL.r (.inl rfl) rfl (by decide) (yr_pick_t (u := .bool true) rfl rfl rfl) ?_
        refine VL.nil ?_
        refine VE.then_wp ?_
        refine V.condT rfl ?_
        refine V.seq ?_
        refine V.region ?_
        refine VL.r (.inl rfl) rfl (by decide) (yr_assign (u := .slice none 0 0) rfl rfl) ?_
        refine VL.r (.inl rfl) rfl (by decide) (yr_assign (u := .bool false) rfl rfl) ?_
        refine VL.nil ?_
        refine VE.then_wp ?_
        refine V.ret ?_
        refine VE.then_ret ?_
        refine ret2 rfl rfl rfl (by nofun) (by nofun) (fun w1 hw => ?_)
        first
          | (have hs : (flineOk ws (p1, p2, p3) st rn) = true := fline_yes (by assumption) (by assumption) (by assumption) (by assumption)
             exact ⟨(a33, c33), by rw [flineV_yes hs, hs], by rw [flineV_yes hs]; exact hw.outs (((List.nil_sublist _)).cons_cons _)⟩)
          | (have hs : (flineOk ws (p1, p2, p3) st rn) = false := by first | exact fline_1 (by assumption) | exact fline_2 (by assumption) | exact fline_3 (by assumption) | exact fline_4 (by assumption)
             exact ⟨(none, 0), by rw [flineV_no hs, hs]; rfl, hw.below, by rw [flineV_no hs]; simp [vl, Ent.at], List.pairwise_singleton _ _⟩)
      · skip
        replace h5 := bnot_f h5
        refine VL.r (.inr ⟨_, _, _, rfl, rfl, rfl⟩) rfl (by decide) (yr_move rfl rfl) ?_
        refine VL.q (.inr ⟨_, _, _, rfl, rfl, rfl⟩) rfl (by decide) (yq_callf rfl known99_FLine (.cons rfl .nil) (fun w hw => c_l06Count)) ?_
        refine VL.r (.inr ⟨_, _, _, rfl, rfl, rfl⟩) rfl (by decide) (yr_not rfl rfl) ?_
        refine VL.r (.inl rfl) rfl (by decide) (yr_pick_f rfl rfl rfl) ?_
        refine VL.nil ?_
        refine VE.then_wp ?_
        refine V.cond rfl (fun h7 => ?_) (fun h7 => ?_)
        · skip
          replace h7 := bnot_t h7
          refine V.seq ?_
          refine V.region ?_
          refine VL.r (.inl rfl) rfl (by decide) (yr_assign (u := .slice none 0 0) rfl rfl) ?_
          refine VL.r (.inl rfl) rfl (by decide) (yr_assign (u := .bool false) rfl rfl) ?_
          refine VL.nil ?_
          refine VE.then_wp ?_
          refine V.ret ?_
          refine VE.then_ret ?_
          refine ret2 rfl rfl rfl (by nofun) (by nofun) (fun w1 hw => ?_)
          first
            | (have hs : (flineOk ws (p1, p2, p3) st rn) = true := fline_yes (by assumption) (by assumption) (by assumption) (by assumption)
               exact ⟨(a33, c33), by rw [flineV_yes hs, hs], by rw [flineV_yes hs]; exact hw.outs (((List.nil_sublist _)).cons_cons _)⟩)
            | (have hs : (flineOk ws (p1, p2, p3) st rn) = false := by first | exact fline_1 (by assumption) | exact fline_2 (by assumption) | exact fline_3 (by assumption) | exact fline_4 (by assumption)
               exact ⟨(none, 0), by rw [flineV_no hs, hs]; rfl, hw.below, by rw [flineV_no hs]; simp [vl, Ent.at], List.pairwise_singleton _ _⟩)
        · skip
          replace h7 := bnot_f h7
          refine V.skip ?_
          refine VE.then_wp ?_
          refine V.seq ?_
          refine V.draw [(0, 0), (2, 0), (3, 0), (4, 0), (1, 1), (5, 1), (6, 0), (7, 0)] mixed_FLine (by kernel_rfl) (by intro j o hj; simp at hj) ?_
          refine SW.r rfl (.inl rfl) rfl (by decide) (yr_move rfl rfl) ?_
          refine SW.q rfl (.inl rfl) rfl (by decide) (yq_loadS rfl Try.underlying53 sz53_FLine rfl (by first | exact Sees.root (by assumption) | exact Sees.own (by repeat (first | exact List.mem_cons_self | exact List.mem_append_left _ (by assumption) | apply List.mem_cons_of_mem | apply List.mem_append_right)) | exact Sees.root (hR _ (by omega)) | exact Sees.own (RowsIn.mem (by repeat (first | exact RowsIn.here | exact RowsIn.last | apply RowsIn.there | apply RowsIn.thereS)) _ (by omega)) | exact Sees.own (WRowsIn.mem (by repeat (first | exact WRowsIn.here | exact WRowsIn.last | apply WRowsIn.there | apply WRowsIn.thereS)) _ (by omega))) rfl rfl rfl) ?_
          refine SW.r rfl (.inl rfl) rfl (by decide) (yr_move rfl rfl) ?_
          refine SW.r rfl (.inl rfl) rfl (by decide) (yr_move rfl rfl) ?_
          refine SW.new1 rfl (.inl rfl) rfl (by decide) (yn_callf rfl known93_FLine (.cons rfl .nil) (fun w hw => c_l06Wires)) ?_
          intro b29
          refine SW.new1 rfl (.inl rfl) rfl (by decide) (yn_callf rfl known100_FLine (.cons rfl (.cons rfl (.cons rfl (.cons rfl .nil)))) (fun w hw => (c_l06Line (q := some ⟨b29, 0, none⟩) (p1 := p1) (p2 := p2) (p3 := p3) (by first | exact Sees.root (by assumption) w hw | exact Sees.own (by repeat (first | exact List.mem_cons_self | exact List.mem_append_left _ (by assumption) | apply List.mem_cons_of_mem | apply List.mem_append_right)) w hw) (by first | exact Sees.root (by assumption) w hw | exact Sees.own (by repeat (first | exact List.mem_cons_self | exact List.mem_append_left _ (by assumption) | apply List.mem_cons_of_mem | apply List.mem_append_right)) w hw) (by first | exact WRws.root (by assumption) hw | exact WRws.own (by repeat (first | exact WRowsIn.here | exact WRowsIn.last | apply WRowsIn.there | apply WRowsIn.thereS)) hw) (by omega) (by assumption) (by assumption) (of_decide_eq_true (by assumption))))) ?_
          rintro ⟨a33, c33⟩
          refine SW.r rfl (.inl rfl) rfl (by decide) (yr_assign rfl rfl) ?_
          refine SW.r rfl (.inl rfl) rfl (by decide) (yr_assign (u := .bool true) rfl rfl) ?_
          refine SW.done ?_
          refine VE.then_wp ?_
          refine V.ret ?_
          refine ret2 rfl rfl rfl (by nofun) (by nofun) (fun w1 hw => ?_)
          first
            | (have hs : (flineOk ws (p1, p2, p3) st rn) = true := fline_yes (by assumption) (by assumption) (by assumption) (by assumption)
               exact ⟨(a33, c33), by rw [flineV_yes hs, hs], by rw [flineV_yes hs]; exact hw.outs (((List.nil_sublist _)).cons_cons _)⟩)
            | (have hs : (flineOk ws (p1, p2, p3) st rn) = false := by first | exact fline_1 (by assumption) | exact fline_2 (by assumption) | exact fline_3 (by assumption) | exact fline_4 (by assumption)
               exact ⟨(none, 0), by rw [flineV_no hs, hs]; rfl, hw.below, by rw [flineV_no hs]; simp [vl, Ent.at], List.pairwise_singleton _ _⟩)

theorem c_implFL {w : World} {a : Option Addr} {c : Nat} {f : Nat → Option Addr × Nat} {ws : List Wr} {p1 p2 p3 : Nat} {st : Nat} {rn : Int} (hA : Cl w a (whd f ws)) (hR : WRws w f ws) (hn : wbulk ws ≤ 1050000) : New Try.prog 37 [.slice a ws.length c, vv (p1, p2, p3), .float .f32 st, .int .i64 rn] w (fun p : Option Addr × Nat => .tuple #[.slice p.1 (flineV ws (p1, p2, p3) st rn).length p.2, .bool (flineOk ws (p1, p2, p3) st rn)]) (fun p => [⟨p.1, vl (flineV ws (p1, p2, p3) st rn), p.2 * 3, 53⟩]) := by
  refine New.enter Try.func37 rfl Try.ntmps37 (Nat.le_of_ble_eq_true rfl) ?_
  have hwl : ws.length ≤ wbulk ws := by unfold wbulk; omega
  have hrw : ∀ k, k < ws.length → (ws.getD k zw).1.length ≤ 1050000 := fun k hk => by have := wbulk_row hk; omega
  refine V.seq ?_
  refine V.region ?_
  refine VL.new1 (.inl rfl) rfl (by decide) (yn_box rfl rfl (.inr ⟨rfl, rfl⟩)) ?_
  intro b5
  refine VL.r (.inl rfl) rfl (by decide) (yr_assign (u := .slice none 0 0) rfl rfl) ?_
  refine VL.r (.inl rfl) rfl (by decide) (yr_assign (u := .bool false) rfl rfl) ?_
  refine VL.nil ?_
  refine VE.then_wp ?_
  refine V.seq ?_
  refine V.seq ?_
  refine V.region ?_
  refine VL.r (.inl rfl) rfl (by decide) (yr_move rfl rfl) ?_
  refine VL.q (.inl rfl) rfl (by decide) (yq_callf rfl known76_FLine (.cons rfl .nil) (fun w hw => (c_implAre (by first | exact Sees.root (by assumption) w hw | exact Sees.own (by repeat (first | exact List.mem_cons_self | exact List.mem_append_left _ (by assumption) | apply List.mem_cons_of_mem | apply List.mem_append_right)) w hw) (by first | exact WRws.root (by assumption) hw | exact WRws.own (by repeat (first | exact WRowsIn.here | exact WRowsIn.last | apply WRowsIn.there | apply WRowsIn.thereS)) hw) (by omega)))) ?_
  refine VL.r (.inl rfl) rfl (by decide) (yr_not rfl rfl) ?_
  refine VL.r (.inl rfl) rfl (by decide) (yr_move rfl rfl) ?_
  refine VX.split 13 _ rfl (fun h1 => ?_) (fun h1 => ?_)
  · skip
    replace h1 := bnot_t h1
    refine VL.no rfl rfl rfl rfl rfl (by decide) ?_
    refine VL.no rfl rfl rfl rfl rfl (by decide) ?_
    refine VL.no rfl rfl rfl rfl rfl (by decide) ?_
    refine VL.r (.inl rfl) rfl (by decide) (yr_pick_t (u := .bool true) rfl rfl rfl) ?_
    refine VL.r (.inl rfl) rfl (by decide) (yr_move rfl rfl) ?_
    refine VL.no rfl rfl rfl rfl rfl (by decide) ?_
    refine VL.no rfl rfl rfl rfl rfl (by decide) ?_
    refine VL.no rfl rfl rfl rfl rfl (by decide) ?_
    refine VL.r (.inl rfl) rfl (by decide) (yr_pick_t (u := .bool true) rfl rfl rfl) ?_
    refine VL.r (.inl rfl) rfl (by decide) (yr_move rfl rfl) ?_
    refine VL.no rfl rfl rfl rfl rfl (by decide) ?_
    refine VL.no rfl rfl rfl rfl rfl (by decide) ?_
    refine VL.no rfl rfl rfl rfl rfl (by decide) ?_
    refine VL.r (.inl rfl) rfl (by decide) (yr_pick_t (u := .bool true) rfl rfl rfl) ?_
    refine VL.nil ?_
    refine VE.then_wp ?_
    refine V.condT rfl ?_
    refine V.seq ?_
    refine V.region ?_
    refine VL.r (.inl rfl) rfl (by decide) (yr_assign (u := .slice none 0 0) rfl rfl) ?_
    refine VL.r (.inl rfl) rfl (by decide) (yr_assign (u := .bool false) rfl rfl) ?_
    refine VL.nil ?_
    refine VE.then_wp ?_
    refine V.ret ?_
    refine VE.then_ret ?_
    refine ret2 rfl rfl rfl (by nofun) (by nofun) (fun w1 hw => ?_)
    first
      | (have hs : (flineOk ws (p1, p2, p3) st rn) = true := fline_yes (by assumption) (by assumption) (by assumption) (by assumption)
         exact ⟨(a33, c33), by rw [flineV_yes hs, hs], by rw [flineV_yes hs]; exact hw.outs (((List.nil_sublist _)).cons_cons _)⟩)
      | (have hs : (flineOk ws (p1, p2, p3) st rn) = false := by first | exact fline_1 (by assumption) | exact fline_2 (by assumption) | exact fline_3 (by assumption) | exact fline_4 (by assumption)
         exact ⟨(none, 0), by rw [flineV_no hs, hs]; rfl, hw.below, by rw [flineV_no hs]; simp [vl, Ent.at], List.pairwise_singleton _ _⟩)
  · skip
    replace h1 := bnot_f h1
    refine VL.q (.inr ⟨_, _, _, rfl, rfl, rfl⟩) rfl (by decide) (yq_loadS rfl Try.underlying53 sz53_FLine rfl (by first | exact Sees.root (by assumption) | exact Sees.own (by repeat (first | exact List.mem_cons_self | exact List.mem_append_left _ (by assumption) | apply List.mem_cons_of_mem | apply List.mem_append_right)) | exact Sees.root (hR _ (by omega)) | exact Sees.own (RowsIn.mem (by repeat (first | exact RowsIn.here | exact RowsIn.last | apply RowsIn.there | apply RowsIn.thereS)) _ (by omega)) | exact Sees.own (WRowsIn.mem (by repeat (first | exact WRowsIn.here | exact WRowsIn.last | apply WRowsIn.there | apply WRowsIn.thereS)) _ (by omega))) rfl rfl rfl) ?_
    refine VL.q (.inr ⟨_, _, _, rfl, rfl, rfl⟩) rfl (by decide) (yq_callf rfl known95_FLine (.cons rfl .nil) (fun w hw => c_fin3)) ?_
    refine VL.r (.inr ⟨_, _, _, rfl, rfl, rfl⟩) rfl (by decide) (yr_not rfl rfl) ?_
    refine VL.r (.inl rfl) rfl (by decide) (yr_pick_f rfl rfl rfl) ?_
    refine VL.r (.inl rfl) rfl (by decide) (yr_move rfl rfl) ?_
    refine VX.split 18 _ rfl (fun h3 => ?_) (fun h3 => ?_)
    · skip
      replace h3 := bnot_t h3
      refine VL.no rfl rfl rfl rfl rfl (by decide) ?_
      refine VL.no rfl rfl rfl rfl rfl (by decide) ?_
      refine VL.no rfl rfl rfl rfl rfl (by decide) ?_
      refine VL.r (.inl rfl) rfl (by decide) (yr_pick_t (u := .bool true) rfl rfl rfl) ?_
      refine VL.r (.inl rfl) rfl (by decide) (yr_move rfl rfl) ?_
      refine VL.no rfl rfl rfl rfl rfl (by decide) ?_
      refine VL.no rfl rfl rfl rfl rfl (by decide) ?_
      refine VL.no rfl rfl rfl rfl rfl (by decide) ?_
      refine VL.r (.inl rfl) rfl (by decide) (yr_pick_t (u := .bool true) rfl rfl rfl) ?_
      refine VL.nil ?_
      refine VE.then_wp ?_
      refine V.condT rfl ?_
      refine V.seq ?_
      refine V.region ?_
      refine VL.r (.inl rfl) rfl (by decide) (yr_assign (u := .slice none 0 0) rfl rfl) ?_
      refine VL.r (.inl rfl) rfl (by decide) (yr_assign (u := .bool false) rfl rfl) ?_
      refine VL.nil ?_
      refine VE.then_wp ?_
      refine V.ret ?_
      refine VE.then_ret ?_
      refine ret2 rfl rfl rfl (by nofun) (by nofun) (fun w1 hw => ?_)
      first
        | (have hs : (flineOk ws (p1, p2, p3) st rn) = true := fline_yes (by assumption) (by assumption) (by assumption) (by assumption)
           exact ⟨(a33, c33), by rw [flineV_yes hs, hs], by rw [flineV_yes hs]; exact hw.outs (((List.nil_sublist _)).cons_cons _)⟩)
        | (have hs : (flineOk ws (p1, p2, p3) st rn) = false := by first | exact fline_1 (by assumption) | exact fline_2 (by assumption) | exact fline_3 (by assumption) | exact fline_4 (by assumption)
           exact ⟨(none, 0), by rw [flineV_no hs, hs]; rfl, hw.below, by rw [flineV_no hs]; simp [vl, Ent.at], List.pairwise_singleton _ _⟩)
    · skip
      replace h3 := bnot_f h3
      refine VL.r (.inr ⟨_, _, _, rfl, rfl, rfl⟩) rfl (by decide) (yr_move rfl rfl) ?_
      refine VL.q (.inr ⟨_, _, _, rfl, rfl, rfl⟩) rfl (by decide) (yq_callf rfl known96_FLine (.cons rfl .nil) (fun w hw => c_IsFinite _)) ?_
      refine VL.r (.inr ⟨_, _, _, rfl, rfl, rfl⟩) rfl (by decide) (yr_not rfl rfl) ?_
      refine VL.r (.inl rfl) rfl (by decide) (yr_pick_f rfl rfl rfl) ?_
      refine VL.r (.inl rfl) rfl (by decide) (yr_move rfl rfl) ?_
      refine VX.split 23 _ rfl (fun h5 => ?_) (fun h5 => ?_)
      · skip
        replace h5 := bnot_t h5
        refine VL.no rfl rfl rfl rfl rfl (by decide) ?_
        refine VL.no rfl rfl rfl rfl rfl (by decide) ?_
        refine VL.no rfl rfl rfl rfl rfl (by decide) ?_
        refine VL.r (.inl rfl) rfl (by decide) (yr_pick_t (u := .bool true) rfl rfl rfl) ?_
        refine VL.nil ?_
        refine VE.then_wp ?_
        refine V.condT rfl ?_
        refine V.seq ?_
        refine V.region ?_
        refine VL.r (.inl rfl) rfl (by decide) (yr_assign (u := .slice none 0 0) rfl rfl) ?_
        refine VL.r (.inl rfl) rfl (by decide) (yr_assign (u := .bool false) rfl rfl) ?_
        refine VL.nil ?_
        refine VE.then_wp ?_
        refine V.ret ?_
        refine VE.then_ret ?_
        refine ret2 rfl rfl rfl (by nofun) (by nofun) (fun w1 hw => ?_)
        first
          | (have hs : (flineOk ws (p1, p2, p3) st rn) = true := fline_yes (by assumption) (by assumption) (by assumption) (by assumption)
             exact ⟨(a33, c33), by rw [flineV_yes hs, hs], by rw [flineV_yes hs]; exact hw.outs (((List.nil_sublist _)).cons_cons _)⟩)
          | (have hs : (flineOk ws (p1, p2, p3) st rn) = false := by first | exact fline_1 (by assumption) | exact fline_2 (by assumption) | exact fline_3 (by assumption) | exact fline_4 (by assumption)
             exact ⟨(none, 0), by rw [flineV_no hs, hs]; rfl, hw.below, by rw [flineV_no hs]; simp [vl, Ent.at], List.pairwise_singleton _ _⟩)
      · skip
        replace h5 := bnot_f h5
        refine VL.r (.inr ⟨_, _, _, rfl, rfl, rfl⟩) rfl (by decide) (yr_move rfl rfl) ?_
        refine VL.q (.inr ⟨_, _, _, rfl, rfl, rfl⟩) rfl (by decide) (yq_callf rfl known101_FLine (.cons rfl .nil) (fun w hw => c_isLC)) ?_
        refine VL.r (.inr ⟨_, _, _, rfl, rfl, rfl⟩) rfl (by decide) (yr_not rfl rfl) ?_
        refine VL.r (.inl rfl) rfl (by decide) (yr_pick_f rfl rfl rfl) ?_
        refine VL.nil ?_
        refine VE.then_wp ?_
        refine V.cond rfl (fun h7 => ?_) (fun h7 => ?_)
        · skip
          replace h7 := bnot_t h7
          refine V.seq ?_
          refine V.region ?_
          refine VL.r (.inl rfl) rfl (by decide) (yr_assign (u := .slice none 0 0) rfl rfl) ?_
          refine VL.r (.inl rfl) rfl (by decide) (yr_assign (u := .bool false) rfl rfl) ?_
          refine VL.nil ?_
          refine VE.then_wp ?_
          refine V.ret ?_
          refine VE.then_ret ?_
          refine ret2 rfl rfl rfl (by nofun) (by nofun) (fun w1 hw => ?_)
          first
            | (have hs : (flineOk ws (p1, p2, p3) st rn) = true := fline_yes (by assumption) (by assumption) (by assumption) (by assumption)
               exact ⟨(a33, c33), by rw [flineV_yes hs, hs], by rw [flineV_yes hs]; exact hw.outs (((List.nil_sublist _)).cons_cons _)⟩)
            | (have hs : (flineOk ws (p1, p2, p3) st rn) = false := by first | exact fline_1 (by assumption) | exact fline_2 (by assumption) | exact fline_3 (by assumption) | exact fline_4 (by assumption)
               exact ⟨(none, 0), by rw [flineV_no hs, hs]; rfl, hw.below, by rw [flineV_no hs]; simp [vl, Ent.at], List.pairwise_singleton _ _⟩)
        · skip
          replace h7 := bnot_f h7
          refine V.skip ?_
          refine VE.then_wp ?_
          refine V.seq ?_
          refine V.draw [(0, 0), (2, 0), (3, 0), (4, 0), (1, 1), (5, 1), (6, 0), (7, 0)] mixed_FLine (by kernel_rfl) (by intro j o hj; simp at hj) ?_
          refine SW.r rfl (.inl rfl) rfl (by decide) (yr_move rfl rfl) ?_
          refine SW.q rfl (.inl rfl) rfl (by decide) (yq_loadS rfl Try.underlying53 sz53_FLine rfl (by first | exact Sees.root (by assumption) | exact Sees.own (by repeat (first | exact List.mem_cons_self | exact List.mem_append_left _ (by assumption) | apply List.mem_cons_of_mem | apply List.mem_append_right)) | exact Sees.root (hR _ (by omega)) | exact Sees.own (RowsIn.mem (by repeat (first | exact RowsIn.here | exact RowsIn.last | apply RowsIn.there | apply RowsIn.thereS)) _ (by omega)) | exact Sees.own (WRowsIn.mem (by repeat (first | exact WRowsIn.here | exact WRowsIn.last | apply WRowsIn.there | apply WRowsIn.thereS)) _ (by omega))) rfl rfl rfl) ?_
          refine SW.r rfl (.inl rfl) rfl (by decide) (yr_move rfl rfl) ?_
          refine SW.r rfl (.inl rfl) rfl (by decide) (yr_move rfl rfl) ?_
          refine SW.new1 rfl (.inl rfl) rfl (by decide) (yn_callf rfl known97_FLine (.cons rfl .nil) (fun w hw => c_fieldOf)) ?_
          intro b29
          refine SW.new1 rfl (.inl rfl) rfl (by decide) (yn_callf rfl known102_FLine (.cons rfl (.cons rfl (.cons rfl (.cons rfl .nil)))) (fun w hw => (c_line known162_FLine (fun w1 hb q => c_fieldOf1 (q := some ⟨b29, 0, none⟩) (p1 := q.1) (p2 := q.2.1) (p3 := q.2.2) (Cl.below (Sees.own (by repeat (first | exact List.mem_cons_self | apply List.mem_cons_of_mem | apply List.mem_append_right)) w hw) hb) ((Sees.root hA w hw).below hb) ((hR.root hw).below hb) hn (by assumption)) (by assumption) (of_decide_eq_true (by assumption))))) ?_
          rintro ⟨a33, c33⟩
          refine SW.r rfl (.inl rfl) rfl (by decide) (yr_assign rfl rfl) ?_
          refine SW.r rfl (.inl rfl) rfl (by decide) (yr_assign (u := .bool true) rfl rfl) ?_
          refine SW.done ?_
          refine VE.then_wp ?_
          refine V.ret ?_
          refine ret2 rfl rfl rfl (by nofun) (by nofun) (fun w1 hw => ?_)
          first
            | (have hs : (flineOk ws (p1, p2, p3) st rn) = true := fline_yes (by assumption) (by assumption) (by assumption) (by assumption)
               exact ⟨(a33, c33), by rw [flineV_yes hs, hs], by rw [flineV_yes hs]; exact hw.outs (((List.nil_sublist _)).cons_cons _)⟩)
            | (have hs : (flineOk ws (p1, p2, p3) st rn) = false := by first | exact fline_1 (by assumption) | exact fline_2 (by assumption) | exact fline_3 (by assumption) | exact fline_4 (by assumption)
               exact ⟨(none, 0), by rw [flineV_no hs, hs]; rfl, hw.below, by rw [flineV_no hs]; simp [vl, Ent.at], List.pairwise_singleton _ _⟩)

theorem law_FieldLine {w : World} {a : Option Addr} {c : Nat} {f : Nat → Option Addr × Nat} {ws : List Wr} {p1 p2 p3 : Nat} {st : Nat} {rn : Int} (hA : Cl w a (whd f ws)) (hR : WRws w f ws) (hX : CansW ws) (hm : ws.length ≤ 9223372036854775807) (hr : ∀ i, i < ws.length → (ws.getD i zw).1.length ≤ 9223372036854775807) (hp : Can3 (p1, p2, p3)) : Pure Try.prog 7 [.slice a ws.length c, vv (p1, p2, p3), .float .f32 st, .int .i64 rn] w (.bool true) := by
  refine Pure.enter Try.func7 rfl Try.ntmps7 (Nat.le_of_ble_eq_true rfl) ?_
  have hbu : wbulk ws = ws.length + wsum ws ws.length := rfl
  have hS := cans_flineV (ws := ws) (p := (p1, p2, p3)) (st := st) (rn := rn) hp
  have hSl := flineV_length (ws := ws) (p := (p1, p2, p3)) (st := st) (rn := rn)
  refine V.seq ?_
  refine V.region ?_
  refine VL.new1 (.inl rfl) rfl (by decide) (yn_box rfl rfl (.inr ⟨rfl, rfl⟩)) ?_
  intro b5
  refine VL.r (.inl rfl) rfl (by decide) (yr_assign (u := .bool false) rfl rfl) ?_
  refine VL.nil ?_
  refine VE.then_wp ?_
  refine V.seq ?_
  refine V.region ?_
  refine VL.r (.inl rfl) rfl (by decide) (yr_assign (u := .int .i64 1048576) rfl rfl) ?_
  refine VL.nil ?_
  refine VE.then_wp ?_
  refine V.seq ?_
  refine V.region ?_
  refine VL.r (.inl rfl) rfl (by decide) (yr_move rfl rfl) ?_
  refine VL.r (.inl rfl) rfl (by decide) (yr_move rfl rfl) ?_
  refine VL.q (.inl rfl) rfl (by decide) (yq_callf rfl known23_FLine (.cons rfl (.cons rfl .nil)) (fun w hw => (c_szWs (by first | exact Sees.root (by assumption) w hw | exact Sees.own (by repeat (first | exact List.mem_cons_self | exact List.mem_append_left _ (by assumption) | apply List.mem_cons_of_mem | apply List.mem_append_right)) w hw) (by omega) (by omega) (by omega) (by assumption)))) ?_
  refine VL.r (.inl rfl) rfl (by decide) (yr_assign rfl rfl) ?_
  refine VL.nil ?_
  refine VE.then_wp ?_
  refine V.seq ?_
  refine V.seq ?_
  refine V.region ?_
  refine VL.r (.inl rfl) rfl (by decide) (yr_move rfl rfl) ?_
  refine VL.r (.inl rfl) rfl (by decide) (yr_icmp rfl (.inr (.inr (.inl rfl))) rfl rfl) ?_
  refine VL.nil ?_
  refine VE.then_wp ?_
  refine V.cond rfl (fun h1 => ?_) (fun h1 => ?_)
  · skip
    replace h1 := ic_lss h1
    refine V.seq ?_
    refine V.region ?_
    refine VL.r (.inl rfl) rfl (by decide) (yr_assign (u := .bool true) rfl rfl) ?_
    refine VL.nil ?_
    refine VE.then_wp ?_
    refine V.ret ?_
    refine VE.then_ret ?_
    refine ret1 rfl rfl (fun w1 hw => ?_)
    exact ⟨rfl, hw.below⟩
  · skip
    replace h1 := ic_lss' h1
    have hsz := szOf_fits h1
    refine V.skip ?_
    refine VE.then_wp ?_
    refine V.seq ?_
    refine V.draw [(0, 0), (2, 0), (4, 0), (5, 0), (1, 1), (3, 0), (6, 1), (7, 0), (8, 0), (9, 0), (10, 0), (11, 0)] mixed_FLine (by kernel_rfl) (by intro j o hj; simp at hj) ?_
    refine SW.r rfl (.inl rfl) rfl (by decide) (yr_move rfl rfl) ?_
    refine SW.q rfl (.inl rfl) rfl (by decide) (yq_loadS rfl Try.underlying45 sz45_FLine rfl (by first | exact Sees.root (by assumption) | exact Sees.own (by repeat (first | exact List.mem_cons_self | exact List.mem_append_left _ (by assumption) | apply List.mem_cons_of_mem | apply List.mem_append_right)) | exact Sees.root (hR _ (by omega)) | exact Sees.own (RowsIn.mem (by repeat (first | exact RowsIn.here | exact RowsIn.last | apply RowsIn.there | apply RowsIn.thereS)) _ (by omega)) | exact Sees.own (WRowsIn.mem (by repeat (first | exact WRowsIn.here | exact WRowsIn.last | apply WRowsIn.there | apply WRowsIn.thereS)) _ (by omega))) rfl rfl rfl) ?_
    refine SW.r rfl (.inl rfl) rfl (by decide) (yr_move rfl rfl) ?_
    refine SW.r rfl (.inl rfl) rfl (by decide) (yr_move rfl rfl) ?_
    refine SW.new rfl (.inl rfl) rfl (by decide) (yn_callf rfl known26_FLine (.cons rfl .nil) (fun w hw => (c_toWs (by first | exact Sees.root (by assumption) w hw | exact Sees.own (by repeat (first | exact List.mem_cons_self | exact List.mem_append_left _ (by assumption) | apply List.mem_cons_of_mem | apply List.mem_append_right)) w hw) (by first | exact WRws.root (by assumption) hw | exact WRws.own (by repeat (first | exact WRowsIn.here | exact WRowsIn.last | apply WRowsIn.there | apply WRowsIn.thereS)) hw) (by omega)))) ?_
    rintro ⟨b27, f27⟩
    refine SW.q rfl (.inl rfl) rfl (by decide) (yq_callf rfl known28_FLine (.cons rfl .nil) (fun w hw => c_toVec)) ?_
    refine SW.new1 rfl (.inl rfl) rfl (by decide) (yn_callf rfl known36_FLine (.cons rfl (.cons rfl (.cons rfl (.cons rfl .nil)))) (fun w hw => (c_specFL (by first | exact Sees.root (by assumption) w hw | exact Sees.own (by repeat (first | exact List.mem_cons_self | exact List.mem_append_left _ (by assumption) | apply List.mem_cons_of_mem | apply List.mem_append_right)) w hw) (by first | exact WRws.root (by assumption) hw | exact WRws.own (by repeat (first | exact WRowsIn.here | exact WRowsIn.last | apply WRowsIn.there | apply WRowsIn.thereS)) hw) (by omega)))) ?_
    rintro ⟨a32, c32⟩
    refine SW.r rfl (.inl rfl) rfl (by decide) (yr_move rfl rfl) ?_
    refine SW.r rfl (.inl rfl) rfl (by decide) (yr_extract rfl rfl rfl (by nofun)) ?_
    refine SW.r rfl (.inl rfl) rfl (by decide) (yr_extract rfl rfl rfl (by nofun)) ?_
    refine SW.r rfl (.inl rfl) rfl (by decide) (yr_assign rfl rfl) ?_
    refine SW.r rfl (.inl rfl) rfl (by decide) (yr_assign rfl rfl) ?_
    refine SW.done ?_
    refine VE.then_wp ?_
    refine V.seq ?_
    refine V.region ?_
    refine VL.r (.inl rfl) rfl (by decide) (yr_move rfl rfl) ?_
    refine VL.new (.inl rfl) rfl (by decide) (yn_callf rfl known26_FLine (.cons rfl .nil) (fun w hw => (c_toWs (by first | exact Sees.root (by assumption) w hw | exact Sees.own (by repeat (first | exact List.mem_cons_self | exact List.mem_append_left _ (by assumption) | apply List.mem_cons_of_mem | apply List.mem_append_right)) w hw) (by first | exact WRws.root (by assumption) hw | exact WRws.own (by repeat (first | exact WRowsIn.here | exact WRowsIn.last | apply WRowsIn.there | apply WRowsIn.thereS)) hw) (by omega)))) ?_
    rintro ⟨b36, f36⟩
    refine VL.r (.inl rfl) rfl (by decide) (yr_assign rfl rfl) ?_
    refine VL.nil ?_
    refine VE.then_wp ?_
    refine V.seq ?_
    refine V.region ?_
    refine VL.r (.inl rfl) rfl (by decide) (yr_move rfl rfl) ?_
    refine VL.q (.inl rfl) rfl (by decide) (yq_loadS rfl Try.underlying45 sz45_FLine rfl (by first | exact Sees.root (by assumption) | exact Sees.own (by repeat (first | exact List.mem_cons_self | exact List.mem_append_left _ (by assumption) | apply List.mem_cons_of_mem | apply List.mem_append_right)) | exact Sees.root (hR _ (by omega)) | exact Sees.own (RowsIn.mem (by repeat (first | exact RowsIn.here | exact RowsIn.last | apply RowsIn.there | apply RowsIn.thereS)) _ (by omega)) | exact Sees.own (WRowsIn.mem (by repeat (first | exact WRowsIn.here | exact WRowsIn.last | apply WRowsIn.there | apply WRowsIn.thereS)) _ (by omega))) rfl rfl rfl) ?_
    refine VL.q (.inl rfl) rfl (by decide) (yq_callf rfl known28_FLine (.cons rfl .nil) (fun w hw => c_toVec)) ?_
    refine VL.r (.inl rfl) rfl (by decide) (yr_move rfl rfl) ?_
    refine VL.r (.inl rfl) rfl (by decide) (yr_move rfl rfl) ?_
    refine VL.new1 (.inl rfl) rfl (by decide) (yn_callf rfl known37_FLine (.cons rfl (.cons rfl (.cons rfl (.cons rfl .nil)))) (fun w hw => (c_implFL (by first | exact Sees.root (by assumption) w hw | exact Sees.own (by repeat (first | exact List.mem_cons_self | exact List.mem_append_left _ (by assumption) | apply List.mem_cons_of_mem | apply List.mem_append_right)) w hw) (by first | exact WRws.root (by assumption) hw | exact WRws.own (by repeat (first | exact WRowsIn.here | exact WRowsIn.last | apply WRowsIn.there | apply WRowsIn.thereS)) hw) (by omega)))) ?_
    rintro ⟨a43, c43⟩
    refine VL.r (.inl rfl) rfl (by decide) (yr_move rfl rfl) ?_
    refine VL.r (.inl rfl) rfl (by decide) (yr_extract rfl rfl rfl (by nofun)) ?_
    refine VL.r (.inl rfl) rfl (by decide) (yr_extract rfl rfl rfl (by nofun)) ?_
    refine VL.r (.inl rfl) rfl (by decide) (yr_assign rfl rfl) ?_
    refine VL.r (.inl rfl) rfl (by decide) (yr_assign rfl rfl) ?_
    refine VL.nil ?_
    refine VE.then_wp ?_
    refine V.seq ?_
    refine V.seq ?_
    refine V.region ?_
    refine VL.r (.inl rfl) rfl (by decide) (yr_move rfl rfl) ?_
    refine VL.r (.inl rfl) rfl (by decide) (yr_move rfl rfl) ?_
    refine VL.q (.inl rfl) rfl (by decide) (yq_callf rfl known32_FLine (.cons rfl (.cons rfl .nil)) (fun w hw => (c_eqVs (by first | exact Sees.root (by assumption) w hw | exact Sees.own (by repeat (first | exact List.mem_cons_self | exact List.mem_append_left _ (by assumption) | apply List.mem_cons_of_mem | apply List.mem_append_right)) w hw) (by first | exact Sees.root (by assumption) w hw | exact Sees.own (by repeat (first | exact List.mem_cons_self | exact List.mem_append_left _ (by assumption) | apply List.mem_cons_of_mem | apply List.mem_append_right)) w hw) (by assumption) (by assumption) (by omega)))) ?_
    refine VL.r (.inl rfl) rfl (by decide) (yr_not rfl rfl) ?_
    refine VL.r (.inl rfl) rfl (by decide) (yr_move rfl rfl) ?_
    refine VX.split 50 _ rfl (fun h2 => ?_) (fun h2 => ?_)
    · skip
      replace h2 := bnot_t h2
      first | (exfalso; omega) | (simp [bcmp] at h2; done)
    · skip
      replace h2 := bnot_f h2
      refine VL.r (.inr ⟨_, _, _, rfl, rfl, rfl⟩) rfl (by decide) (yr_move rfl rfl) ?_
      refine VL.r (.inr ⟨_, _, _, rfl, rfl, rfl⟩) rfl (by decide) (yr_move rfl rfl) ?_
      refine VL.r (.inr ⟨_, _, _, rfl, rfl, rfl⟩) rfl (by decide) (yr_bcmp rfl Try.underlying4 rfl rfl (.inr rfl)) ?_
      refine VL.r (.inl rfl) rfl (by decide) (yr_pick_f rfl rfl rfl) ?_
      refine VL.nil ?_
      refine VE.then_wp ?_
      refine V.cond rfl (fun h3 => ?_) (fun h3 => ?_)
      · skip
        first | (exfalso; omega) | (simp [bcmp] at h3; done)
      · skip
        refine V.skip ?_
        refine VE.then_wp ?_
        refine V.seq ?_
        refine V.seq ?_
        refine V.region ?_
        refine VL.r (.inl rfl) rfl (by decide) (yr_move rfl rfl) ?_
        refine VL.r (.inl rfl) rfl (by decide) (yr_move rfl rfl) ?_
        refine VL.new (.inl rfl) rfl (by decide) (yn_callf rfl known26_FLine (.cons rfl .nil) (fun w hw => (c_toWs (by first | exact Sees.root (by assumption) w hw | exact Sees.own (by repeat (first | exact List.mem_cons_self | exact List.mem_append_left _ (by assumption) | apply List.mem_cons_of_mem | apply List.mem_append_right)) w hw) (by first | exact WRws.root (by assumption) hw | exact WRws.own (by repeat (first | exact WRowsIn.here | exact WRowsIn.last | apply WRowsIn.there | apply WRowsIn.thereS)) hw) (by omega)))) ?_
        rintro ⟨b57, f57⟩
        refine VL.q (.inl rfl) rfl (by decide) (yq_callf rfl known31_FLine (.cons rfl (.cons rfl .nil)) (fun w hw => (c_eqWs (by first | exact Sees.root (by assumption) w hw | exact Sees.own (by repeat (first | exact List.mem_cons_self | exact List.mem_append_left _ (by assumption) | apply List.mem_cons_of_mem | apply List.mem_append_right)) w hw) (by first | exact WRws.root (by assumption) hw | exact WRws.own (by repeat (first | exact WRowsIn.here | exact WRowsIn.last | apply WRowsIn.there | apply WRowsIn.thereS)) hw) (by first | exact Sees.root (by assumption) w hw | exact Sees.own (by repeat (first | exact List.mem_cons_self | exact List.mem_append_left _ (by assumption) | apply List.mem_cons_of_mem | apply List.mem_append_right)) w hw) (by first | exact WRws.root (by assumption) hw | exact WRws.own (by repeat (first | exact WRowsIn.here | exact WRowsIn.last | apply WRowsIn.there | apply WRowsIn.thereS)) hw) (by assumption) (by assumption) (by omega)))) ?_
        refine VL.r (.inl rfl) rfl (by decide) (yr_not rfl rfl) ?_
        refine VL.nil ?_
        refine VE.then_wp ?_
        refine V.cond rfl (fun h4 => ?_) (fun h4 => ?_)
        · skip
          replace h4 := bnot_t h4
          first | (exfalso; omega) | (simp [bcmp] at h4; done)
        · skip
          replace h4 := bnot_f h4
          refine V.skip ?_
          refine VE.then_wp ?_
          refine V.seq ?_
          refine V.region ?_
          refine VL.r (.inl rfl) rfl (by decide) (yr_assign (u := .int .i64 1) rfl rfl) ?_
          refine VL.nil ?_
          refine VE.then_wp ?_
          refine V.seq ?_
          refine V.region ?_
          refine VL.r (.inl rfl) rfl (by decide) (yr_move rfl rfl) ?_
          refine VL.r (.inl rfl) rfl (by decide) (yr_move rfl rfl) ?_
          refine VL.c (.inl rfl) rfl (by decide) (yc_callf rfl known38_FLine (.cons rfl (.cons rfl .nil)) (by apply Pick.two; all_goals (repeat (first | exact Rem.here | exact Rem.all | exact Rem.hereS | apply Rem.there | apply Rem.thereS))) (c_markWs (by omega) (by omega) (by omega))) ?_
          rintro ⟨⟩
          refine VL.r (.inl rfl) rfl (by decide) (yr_assign rfl rfl) ?_
          refine VL.nil ?_
          refine VE.then_wp ?_
          refine V.seq ?_
          refine V.seq ?_
          refine V.region ?_
          refine VL.r (.inl rfl) rfl (by decide) (yr_move rfl rfl) ?_
          refine VL.r (.inl rfl) rfl (by decide) (yr_icmp rfl (.inr (.inr (.inl rfl))) rfl rfl) ?_
          refine VL.r (.inl rfl) rfl (by decide) (yr_move rfl rfl) ?_
          refine VX.split 65 _ rfl (fun h5 => ?_) (fun h5 => ?_)
          · skip
            replace h5 := ic_lss h5
            first | (exfalso; omega) | (simp [bcmp] at h5; done)
          · skip
            replace h5 := ic_lss' h5
            refine VL.r (.inr ⟨_, _, _, rfl, rfl, rfl⟩) rfl (by decide) (yr_move rfl rfl) ?_
            refine VL.r (.inr ⟨_, _, _, rfl, rfl, rfl⟩) rfl (by decide) (yr_move rfl rfl) ?_
            refine VL.q (.inr ⟨_, _, _, rfl, rfl, rfl⟩) rfl (by decide) (yq_callf rfl known32_FLine (.cons rfl (.cons rfl .nil)) (fun w hw => (c_eqVs (by first | exact Sees.root (by assumption) w hw | exact Sees.own (by repeat (first | exact List.mem_cons_self | exact List.mem_append_left _ (by assumption) | apply List.mem_cons_of_mem | apply List.mem_append_right)) w hw) (by first | exact Sees.root (by assumption) w hw | exact Sees.own (by repeat (first | exact List.mem_cons_self | exact List.mem_append_left _ (by assumption) | apply List.mem_cons_of_mem | apply List.mem_append_right)) w hw) (by assumption) (by assumption) (by omega)))) ?_
            refine VL.r (.inr ⟨_, _, _, rfl, rfl, rfl⟩) rfl (by decide) (yr_not rfl rfl) ?_
            refine VL.r (.inl rfl) rfl (by decide) (yr_pick_f rfl rfl rfl) ?_
            refine VL.r (.inl rfl) rfl (by decide) (yr_move rfl rfl) ?_
            refine VX.split 71 _ rfl (fun h6 => ?_) (fun h6 => ?_)
            · skip
              replace h6 := bnot_t h6
              first | (exfalso; omega) | (simp [bcmp] at h6; done)
            · skip
              replace h6 := bnot_f h6
              refine VL.r (.inr ⟨_, _, _, rfl, rfl, rfl⟩) rfl (by decide) (yr_move rfl rfl) ?_
              refine VL.r (.inr ⟨_, _, _, rfl, rfl, rfl⟩) rfl (by decide) (yr_move rfl rfl) ?_
              refine VL.r (.inr ⟨_, _, _, rfl, rfl, rfl⟩) rfl (by decide) (yr_bcmp rfl Try.underlying4 rfl rfl (.inr rfl)) ?_
              refine VL.r (.inl rfl) rfl (by decide) (yr_pick_f rfl rfl rfl) ?_
              refine VL.nil ?_
              refine VE.then_wp ?_
              refine V.cond rfl (fun h7 => ?_) (fun h7 => ?_)
              · skip
                first | (exfalso; omega) | (simp [bcmp] at h7; done)
              · skip
                refine V.skip ?_
                refine VE.then_wp ?_
                refine V.seq ?_
                refine V.region ?_
                refine VL.r (.inl rfl) rfl (by decide) (yr_assign (u := .int .i64 1) rfl rfl) ?_
                refine VL.nil ?_
                refine VE.then_wp ?_
                refine V.seq ?_
                refine V.region ?_
                refine VL.r (.inl rfl) rfl (by decide) (yr_move rfl rfl) ?_
                refine VL.r (.inl rfl) rfl (by decide) (yr_move rfl rfl) ?_
                refine VL.c (.inl rfl) rfl (by decide) (yc_callf rfl known39_FLine (.cons rfl (.cons rfl .nil)) (by apply Pick.one; repeat (first | exact Rem.here | apply Rem.there | apply Rem.thereS)) (c_markV (by omega) (by omega) (by omega))) ?_
                rintro ⟨⟩
                refine VL.r (.inl rfl) rfl (by decide) (yr_assign rfl rfl) ?_
                refine VL.nil ?_
                refine VE.then_wp ?_
                refine V.seq ?_
                refine V.region ?_
                refine VL.r (.inl rfl) rfl (by decide) (yr_assign (u := .int .i64 1) rfl rfl) ?_
                refine VL.nil ?_
                refine VE.then_wp ?_
                refine V.seq ?_
                refine V.region ?_
                refine VL.r (.inl rfl) rfl (by decide) (yr_move rfl rfl) ?_
                refine VL.r (.inl rfl) rfl (by decide) (yr_move rfl rfl) ?_
                refine VL.q (.inl rfl) rfl (by decide) (yq_callf rfl known40_FLine (.cons rfl (.cons rfl .nil)) (fun w hw => (c_heldV (by first | exact Sees.root (by assumption) w hw | exact Sees.own (by repeat (first | exact List.mem_cons_self | exact List.mem_append_left _ (by assumption) | apply List.mem_cons_of_mem | apply List.mem_append_right)) w hw) (by omega) (by omega) (by omega)))) ?_
                refine VL.r (.inl rfl) rfl (by decide) (yr_assign rfl rfl) ?_
                refine VL.nil ?_
                refine VE.then_wp ?_
                refine V.seq ?_
                refine V.seq ?_
                refine V.region ?_
                refine VL.r (.inl rfl) rfl (by decide) (yr_move rfl rfl) ?_
                refine VL.r (.inl rfl) rfl (by decide) (yr_icmp rfl (.inr (.inr (.inl rfl))) rfl rfl) ?_
                refine VL.nil ?_
                refine VE.then_wp ?_
                refine V.cond rfl (fun h8 => ?_) (fun h8 => ?_)
                · skip
                  replace h8 := ic_lss h8
                  first | (exfalso; omega) | (simp [bcmp] at h8; done)
                · skip
                  replace h8 := ic_lss' h8
                  refine V.skip ?_
                  refine VE.then_wp ?_
                  refine V.seq ?_
                  refine V.seq ?_
                  refine V.region ?_
                  refine VL.r (.inl rfl) rfl (by decide) (yr_move rfl rfl) ?_
                  refine VL.r (.inl rfl) rfl (by decide) (yr_move rfl rfl) ?_
                  refine VL.r (.inl rfl) rfl (by decide) (yr_icmp rfl (.inr (.inl rfl)) rfl rfl) ?_
                  refine VL.nil ?_
                  refine VE.then_wp ?_
                  refine V.cond rfl (fun h9 => ?_) (fun h9 => ?_)
                  · skip
                    replace h9 := ic_neq h9
                    first | (exfalso; omega) | (simp [bcmp] at h9; done)
                  · skip
                    replace h9 := ic_neq' h9
                    refine V.skip ?_
                    refine VE.then_wp ?_
                    refine V.seq ?_
                    refine V.draw [(0, 0), (2, 0), (4, 0), (5, 0), (1, 1), (3, 0), (6, 1), (7, 0), (8, 0), (9, 0), (10, 0), (11, 0)] mixed_FLine (by kernel_rfl) (by intro j o hj; simp at hj) ?_
                    refine SW.r rfl (.inl rfl) rfl (by decide) (yr_move rfl rfl) ?_
                    refine SW.q rfl (.inl rfl) rfl (by decide) (yq_loadS rfl Try.underlying45 sz45_FLine rfl (by first | exact Sees.root (by assumption) | exact Sees.own (by repeat (first | exact List.mem_cons_self | exact List.mem_append_left _ (by assumption) | apply List.mem_cons_of_mem | apply List.mem_append_right)) | exact Sees.root (hR _ (by omega)) | exact Sees.own (RowsIn.mem (by repeat (first | exact RowsIn.here | exact RowsIn.last | apply RowsIn.there | apply RowsIn.thereS)) _ (by omega)) | exact Sees.own (WRowsIn.mem (by repeat (first | exact WRowsIn.here | exact WRowsIn.last | apply WRowsIn.there | apply WRowsIn.thereS)) _ (by omega))) rfl rfl rfl) ?_
                    refine SW.r rfl (.inl rfl) rfl (by decide) (yr_move rfl rfl) ?_
                    refine SW.r rfl (.inl rfl) rfl (by decide) (yr_move rfl rfl) ?_
                    refine SW.new rfl (.inl rfl) rfl (by decide) (yn_callf rfl known26_FLine (.cons rfl .nil) (fun w hw => (c_toWs (by first | exact Sees.root (by assumption) w hw | exact Sees.own (by repeat (first | exact List.mem_cons_self | exact List.mem_append_left _ (by assumption) | apply List.mem_cons_of_mem | apply List.mem_append_right)) w hw) (by first | exact WRws.root (by assumption) hw | exact WRws.own (by repeat (first | exact WRowsIn.here | exact WRowsIn.last | apply WRowsIn.there | apply WRowsIn.thereS)) hw) (by omega)))) ?_
                    rintro ⟨b89, f89⟩
                    refine SW.q rfl (.inl rfl) rfl (by decide) (yq_callf rfl known28_FLine (.cons rfl .nil) (fun w hw => c_toVec)) ?_
                    refine SW.new1 rfl (.inl rfl) rfl (by decide) (yn_callf rfl known37_FLine (.cons rfl (.cons rfl (.cons rfl (.cons rfl .nil)))) (fun w hw => (c_implFL (by first | exact Sees.root (by assumption) w hw | exact Sees.own (by repeat (first | exact List.mem_cons_self | exact List.mem_append_left _ (by assumption) | apply List.mem_cons_of_mem | apply List.mem_append_right)) w hw) (by first | exact WRws.root (by assumption) hw | exact WRws.own (by repeat (first | exact WRowsIn.here | exact WRowsIn.last | apply WRowsIn.there | apply WRowsIn.thereS)) hw) (by omega)))) ?_
                    rintro ⟨a94, c94⟩
                    refine SW.r rfl (.inl rfl) rfl (by decide) (yr_move rfl rfl) ?_
                    refine SW.r rfl (.inl rfl) rfl (by decide) (yr_extract rfl rfl rfl (by nofun)) ?_
                    refine SW.r rfl (.inl rfl) rfl (by decide) (yr_extract rfl rfl rfl (by nofun)) ?_
                    refine SW.r rfl (.inl rfl) rfl (by decide) (yr_assign rfl rfl) ?_
                    refine SW.r rfl (.inl rfl) rfl (by decide) (yr_assign rfl rfl) ?_
                    refine SW.done ?_
                    refine VE.then_wp ?_
                    refine V.seq ?_
                    refine V.seq ?_
                    refine V.region ?_
                    refine VL.r (.inl rfl) rfl (by decide) (yr_move rfl rfl) ?_
                    refine VL.r (.inl rfl) rfl (by decide) (yr_move rfl rfl) ?_
                    refine VL.q (.inl rfl) rfl (by decide) (yq_callf rfl known32_FLine (.cons rfl (.cons rfl .nil)) (fun w hw => (c_eqVs (by first | exact Sees.root (by assumption) w hw | exact Sees.own (by repeat (first | exact List.mem_cons_self | exact List.mem_append_left _ (by assumption) | apply List.mem_cons_of_mem | apply List.mem_append_right)) w hw) (by first | exact Sees.root (by assumption) w hw | exact Sees.own (by repeat (first | exact List.mem_cons_self | exact List.mem_append_left _ (by assumption) | apply List.mem_cons_of_mem | apply List.mem_append_right)) w hw) (by assumption) (by assumption) (by omega)))) ?_
                    refine VL.r (.inl rfl) rfl (by decide) (yr_not rfl rfl) ?_
                    refine VL.r (.inl rfl) rfl (by decide) (yr_move rfl rfl) ?_
                    refine VX.split 101 _ rfl (fun h10 => ?_) (fun h10 => ?_)
                    · skip
                      replace h10 := bnot_t h10
                      first | (exfalso; omega) | (simp [bcmp] at h10; done)
                    · skip
                      replace h10 := bnot_f h10
                      refine VL.r (.inr ⟨_, _, _, rfl, rfl, rfl⟩) rfl (by decide) (yr_move rfl rfl) ?_
                      refine VL.r (.inr ⟨_, _, _, rfl, rfl, rfl⟩) rfl (by decide) (yr_move rfl rfl) ?_
                      refine VL.r (.inr ⟨_, _, _, rfl, rfl, rfl⟩) rfl (by decide) (yr_bcmp rfl Try.underlying4 rfl rfl (.inr rfl)) ?_
                      refine VL.r (.inl rfl) rfl (by decide) (yr_pick_f rfl rfl rfl) ?_
                      refine VL.nil ?_
                      refine VE.then_wp ?_
                      refine V.cond rfl (fun h11 => ?_) (fun h11 => ?_)
                      · skip
                        first | (exfalso; omega) | (simp [bcmp] at h11; done)
                      · skip
                        refine V.skip ?_
                        refine VE.then_wp ?_
                        refine V.seq ?_
                        refine V.region ?_
                        refine VL.r (.inl rfl) rfl (by decide) (yr_assign (u := .int .i64 1) rfl rfl) ?_
                        refine VL.nil ?_
                        refine VE.then_wp ?_
                        refine V.seq ?_
                        refine V.region ?_
                        refine VL.r (.inl rfl) rfl (by decide) (yr_move rfl rfl) ?_
                        refine VL.r (.inl rfl) rfl (by decide) (yr_move rfl rfl) ?_
                        refine VL.q (.inl rfl) rfl (by decide) (yq_callf rfl known40_FLine (.cons rfl (.cons rfl .nil)) (fun w hw => (c_heldV (by first | exact Sees.root (by assumption) w hw | exact Sees.own (by repeat (first | exact List.mem_cons_self | exact List.mem_append_left _ (by assumption) | apply List.mem_cons_of_mem | apply List.mem_append_right)) w hw) (by omega) (by omega) (by omega)))) ?_
                        refine VL.r (.inl rfl) rfl (by decide) (yr_assign rfl rfl) ?_
                        refine VL.nil ?_
                        refine VE.then_wp ?_
                        refine V.seq ?_
                        refine V.seq ?_
                        refine V.region ?_
                        refine VL.r (.inl rfl) rfl (by decide) (yr_move rfl rfl) ?_
                        refine VL.r (.inl rfl) rfl (by decide) (yr_icmp rfl (.inr (.inr (.inl rfl))) rfl rfl) ?_
                        refine VL.nil ?_
                        refine VE.then_wp ?_
                        refine V.cond rfl (fun h12 => ?_) (fun h12 => ?_)
                        · skip
                          replace h12 := ic_lss h12
                          first | (exfalso; omega) | (simp [bcmp] at h12; done)
                        · skip
                          replace h12 := ic_lss' h12
                          refine V.skip ?_
                          refine VE.then_wp ?_
                          refine V.seq ?_
                          refine V.seq ?_
                          refine V.region ?_
                          refine VL.r (.inl rfl) rfl (by decide) (yr_move rfl rfl) ?_
                          refine VL.r (.inl rfl) rfl (by decide) (yr_move rfl rfl) ?_
                          refine VL.r (.inl rfl) rfl (by decide) (yr_icmp rfl (.inr (.inl rfl)) rfl rfl) ?_
                          refine VL.nil ?_
                          refine VE.then_wp ?_
                          refine V.cond rfl (fun h13 => ?_) (fun h13 => ?_)
                          · skip
                            replace h13 := ic_neq h13
                            first | (exfalso; omega) | (simp [bcmp] at h13; done)
                          · skip
                            replace h13 := ic_neq' h13
                            refine V.skip ?_
                            refine VE.then_wp ?_
                            refine V.seq ?_
                            refine V.region ?_
                            refine VL.r (.inl rfl) rfl (by decide) (yr_assign (u := .bool true) rfl rfl) ?_
                            refine VL.nil ?_
                            refine VE.then_wp ?_
                            refine V.ret ?_
                            refine ret1 rfl rfl (fun w1 hw => ?_)
                            exact ⟨rfl, hw.below⟩

end Go.Proofs.Ytppfkajfekafaaa
