/- Walks: FiLine. Printed by gen.py. -/
import Derived.Test.YtppfkajfekafaaaWMarkW
import Derived.Test.YtppfkajfekafaaaWFine
import Derived.Test.YtppfkajfekafaaaFiner
import Derived.KernelRfl
namespace Go.Proofs.Ytppfkajfekafaaa
open Go.RowKit
set_option linter.unusedVariables false
set_option linter.unusedSimpArgs false
set_option maxRecDepth 20000

theorem known91_FiLine : Known Try.prog 91 := Known.mk' Try.func91 (by kernel_rfl)
theorem sz53_FiLine : (Try.prog.info? 53).map (·.size) = some 3 := by kernel_rfl
theorem known84_FiLine : Known Try.prog 84 := Known.mk' Try.func84 (by kernel_rfl)
theorem known92_FiLine : Known Try.prog 92 := Known.mk' Try.func92 (by kernel_rfl)
theorem known103_FiLine : Known Try.prog 103 := Known.mk' Try.func103 (by kernel_rfl)
theorem known99_FiLine : Known Try.prog 99 := Known.mk' Try.func99 (by kernel_rfl)
theorem elt53_FiLine : Elt Try.prog 53 [Value.float .f32 0, Value.float .f32 0, Value.float .f32 0] 12 := Elt.mk' (by kernel_rfl) (by decide)
theorem mixed_FiLine : Try.prog.follows .mixedOrders = true := by kernel_rfl
theorem known93_FiLine : Known Try.prog 93 := Known.mk' Try.func93 (by kernel_rfl)
theorem known104_FiLine : Known Try.prog 104 := Known.mk' Try.func104 (by kernel_rfl)
theorem zero53_FiLine : (Try.prog.info? 53).bind (·.zero) = some (Value.agg #[Value.float .f32 0, Value.float .f32 0, Value.float .f32 0]) := by kernel_rfl
theorem known105_FiLine : Known Try.prog 105 := Known.mk' Try.func105 (by kernel_rfl)
theorem known101_FiLine : Known Try.prog 101 := Known.mk' Try.func101 (by kernel_rfl)
theorem known97_FiLine : Known Try.prog 97 := Known.mk' Try.func97 (by kernel_rfl)
theorem known162_FiLine : Known Try.prog 162 := Known.mk' Try.func162 (by kernel_rfl)
theorem known106_FiLine : Known Try.prog 106 := Known.mk' Try.func106 (by kernel_rfl)
theorem known23_FiLine : Known Try.prog 23 := Known.mk' Try.func23 (by kernel_rfl)
theorem sz45_FiLine : (Try.prog.info? 45).map (·.size) = some 3 := by kernel_rfl
theorem known26_FiLine : Known Try.prog 26 := Known.mk' Try.func26 (by kernel_rfl)
theorem known28_FiLine : Known Try.prog 28 := Known.mk' Try.func28 (by kernel_rfl)
theorem known43_FiLine : Known Try.prog 43 := Known.mk' Try.func43 (by kernel_rfl)
theorem known44_FiLine : Known Try.prog 44 := Known.mk' Try.func44 (by kernel_rfl)
theorem known32_FiLine : Known Try.prog 32 := Known.mk' Try.func32 (by kernel_rfl)
theorem known31_FiLine : Known Try.prog 31 := Known.mk' Try.func31 (by kernel_rfl)
theorem known38_FiLine : Known Try.prog 38 := Known.mk' Try.func38 (by kernel_rfl)
theorem known39_FiLine : Known Try.prog 39 := Known.mk' Try.func39 (by kernel_rfl)
theorem known40_FiLine : Known Try.prog 40 := Known.mk' Try.func40 (by kernel_rfl)
attribute [local irreducible] fop fcmp fconv sqrt32 fneg segF fieldS fieldI List.getD unit3 dirV dirI midI stepV stepOk dirOk stK stN pw fineOk fnV fnN fnB fiK fiL fiM fiV fiS fiOk fineArgs

theorem c_specFiL {w : World} {a : Option Addr} {c : Nat} {f : Nat → Option Addr × Nat} {ws : List Wr} {p1 p2 p3 : Nat} {st near : Nat} {rn : Int} (hA : Cl w a (whd f ws)) (hR : WRws w f ws) (hn : wbulk ws ≤ 1050000) : New Try.prog 43 [.slice a ws.length c, vv (p1, p2, p3), .float .f32 st, .float .f32 near, .int .i64 rn] w (fun p : Option Addr × Nat => .tuple #[.slice p.1 (fiV ws (p1, p2, p3) st near rn).length p.2, .int .i64 ((fiS ws (p1, p2, p3) st near rn) : Int), .bool (fiOk ws (p1, p2, p3) st near rn)]) (fun p => [⟨p.1, vl (fiV ws (p1, p2, p3) st near rn), p.2 * 3, 53⟩]) := by
  refine New.enter Try.func43 rfl Try.ntmps43 (Nat.le_of_ble_eq_true rfl) ?_
  have hwl : ws.length ≤ wbulk ws := by unfold wbulk; omega
  have hrw : ∀ k, k < ws.length → (ws.getD k zw).1.length ≤ 1050000 := fun k hk => by have := wbulk_row hk; omega
  refine V.seq ?_
  refine V.region ?_
  refine VL.new1 (.inl rfl) rfl (by decide) (yn_box rfl rfl (.inr ⟨rfl, rfl⟩)) ?_
  intro b6
  refine VL.r (.inl rfl) rfl (by decide) (yr_assign (u := .slice none 0 0) rfl rfl) ?_
  refine VL.r (.inl rfl) rfl (by decide) (yr_assign (u := .int .i64 0) rfl rfl) ?_
  refine VL.r (.inl rfl) rfl (by decide) (yr_assign (u := .bool false) rfl rfl) ?_
  refine VL.nil ?_
  refine VE.then_wp ?_
  refine V.seq ?_
  refine V.seq ?_
  refine V.region ?_
  refine VL.r (.inl rfl) rfl (by decide) (yr_move rfl rfl) ?_
  refine VL.q (.inl rfl) rfl (by decide) (yq_callf rfl known91_FiLine (.cons rfl .nil) (fun w hw => (c_l02Are (by first | exact Sees.root (by assumption) w hw | exact Sees.own (by repeat (first | exact List.mem_cons_self | exact List.mem_append_left _ (by assumption) | apply List.mem_cons_of_mem | apply List.mem_append_right)) w hw) (by first | exact WRws.root (by assumption) hw | exact WRws.own (by repeat (first | exact WRowsIn.here | exact WRowsIn.last | apply WRowsIn.there | apply WRowsIn.thereS)) hw) (by omega)))) ?_
  refine VL.r (.inl rfl) rfl (by decide) (yr_not rfl rfl) ?_
  refine VL.r (.inl rfl) rfl (by decide) (yr_move rfl rfl) ?_
  refine VX.split 22 _ rfl (fun h1 => ?_) (fun h1 => ?_)
  · skip
    replace h1 := bnot_t h1
    refine VL.no rfl rfl rfl rfl rfl (by decide) ?_
    refine VL.no rfl rfl rfl rfl rfl (by decide) ?_
    refine VL.no rfl rfl rfl rfl rfl (by decide) ?_
    refine VL.r (.inl rfl) rfl (by decide) (yr_pick_t (u := .bool true) rfl rfl rfl) ?_
    refine VL.r (.inl rfl) rfl (by decide) (yr_move rfl rfl) ?_
    refine VL.no rfl rfl rfl rfl rfl (by decide) ?_
    refine VL.no rfl rfl rfl rfl rfl (by decide) ?_
    refine VL.no rfl rfl rfl rfl rfl (by decide) ?_
    refine VL.r (.inl rfl) rfl (by decide) (yr_pick_t (u := .bool true) rfl rfl rfl) ?_
    refine VL.r (.inl rfl) rfl (by decide) (yr_move rfl rfl) ?_
    refine VL.no rfl rfl rfl rfl rfl (by decide) ?_
    refine VL.no rfl rfl rfl rfl rfl (by decide) ?_
    refine VL.no rfl rfl rfl rfl rfl (by decide) ?_
    refine VL.r (.inl rfl) rfl (by decide) (yr_pick_t (u := .bool true) rfl rfl rfl) ?_
    refine VL.r (.inl rfl) rfl (by decide) (yr_move rfl rfl) ?_
    refine VL.no rfl rfl rfl rfl rfl (by decide) ?_
    refine VL.no rfl rfl rfl rfl rfl (by decide) ?_
    refine VL.no rfl rfl rfl rfl rfl (by decide) ?_
    refine VL.r (.inl rfl) rfl (by decide) (yr_pick_t (u := .bool true) rfl rfl rfl) ?_
    refine VL.nil ?_
    refine VE.then_wp ?_
    refine V.condT rfl ?_
    refine V.seq ?_
    refine V.region ?_
    refine VL.r (.inl rfl) rfl (by decide) (yr_assign (u := .slice none 0 0) rfl rfl) ?_
    refine VL.r (.inl rfl) rfl (by decide) (yr_assign (u := .int .i64 0) rfl rfl) ?_
    refine VL.r (.inl rfl) rfl (by decide) (yr_assign (u := .bool false) rfl rfl) ?_
    refine VL.nil ?_
    refine VE.then_wp ?_
    refine V.ret ?_
    refine VE.then_ret ?_
    refine ret3 rfl rfl rfl rfl (by nofun) (by nofun) (by nofun) (fun w1 hw => ?_)
    first
      | (have hs : (fiOk ws (p1, p2, p3) st near rn) = true := fi_yes (fa_yes (by assumption) (by assumption) (by assumption) (by assumption)) (by assumption)
         have hkr : k = rn.toNat := by omega
         subst hkr
         have hm := fiM_all (ws := ws) (p := (p1, p2, p3)) (st := st) (near := near) hI
         have h9 : Hp _ [⟨a9, vl (fiL ws (p1, p2, p3) st near rn.toNat), c9 * 3, 53⟩] w1 := hw.pick (by apply Pick.one; repeat (first | exact Rem.here | apply Rem.there))
         exact ⟨(a9, c9), by rw [fiV_yes hs hm, fiS_yes hs hm, hs, fiL_length], by rw [fiV_yes hs hm]; exact h9.out1⟩)
      | (have hs : (fiOk ws (p1, p2, p3) st near rn) = true := fi_yes (fa_yes (by assumption) (by assumption) (by assumption) (by assumption)) (by assumption)
         have hm := fiM_at (ws := ws) (p := (p1, p2, p3)) (st := st) (near := near) (n := rn.toNat) hI (by omega) (by rw [fiK_succ hk2]; assumption)
         have h9 : Hp _ [⟨a9, vl (fiL ws (p1, p2, p3) st near k), c9 * 3, 53⟩] w1 := hw.pick (by apply Pick.one; repeat (first | exact Rem.here | apply Rem.there))
         exact ⟨(a9, c9), by rw [fiV_yes hs hm, fiS_yes hs hm, hs, fiL_length], by rw [fiV_yes hs hm]; exact h9.out1⟩)
      | (have hs : (fiOk ws (p1, p2, p3) st near rn) = false := by first | exact fi_2 (by assumption) | exact fi_1 (by first | exact fa_1 (by assumption) | exact fa_2 (by assumption) | exact fa_3 (by assumption) | exact fa_4 (by assumption))
         exact ⟨(none, 0), by rw [fiV_no hs, fiS_no hs, hs]; rfl, hw.below, by rw [fiV_no hs]; simp [vl, Ent.at], List.pairwise_singleton _ _⟩)
  · skip
    replace h1 := bnot_f h1
    refine VL.q (.inr ⟨_, _, _, rfl, rfl, rfl⟩) rfl (by decide) (yq_loadS rfl Try.underlying53 sz53_FiLine rfl (by first | exact Sees.root (by assumption) | exact Sees.own (by repeat (first | exact List.mem_cons_self | exact List.mem_append_left _ (by assumption) | apply List.mem_cons_of_mem | apply List.mem_append_right)) | exact Sees.root (hR _ (by omega)) | exact Sees.own (RowsIn.mem (by repeat (first | exact RowsIn.here | exact RowsIn.last | apply RowsIn.there | apply RowsIn.thereS)) _ (by omega)) | exact Sees.own (WRowsIn.mem (by repeat (first | exact WRowsIn.here | exact WRowsIn.last | apply WRowsIn.there | apply WRowsIn.thereS)) _ (by omega))) rfl rfl rfl) ?_
    refine VL.q (.inr ⟨_, _, _, rfl, rfl, rfl⟩) rfl (by decide) (yq_callf rfl known84_FiLine (.cons rfl .nil) (fun w hw => c_fin3S)) ?_
    refine VL.r (.inr ⟨_, _, _, rfl, rfl, rfl⟩) rfl (by decide) (yr_not rfl rfl) ?_
    refine VL.r (.inl rfl) rfl (by decide) (yr_pick_f rfl rfl rfl) ?_
    refine VL.r (.inl rfl) rfl (by decide) (yr_move rfl rfl) ?_
    refine VX.split 27 _ rfl (fun h3 => ?_) (fun h3 => ?_)
    · skip
      replace h3 := bnot_t h3
      refine VL.no rfl rfl rfl rfl rfl (by decide) ?_
      refine VL.no rfl rfl rfl rfl rfl (by decide) ?_
      refine VL.no rfl rfl rfl rfl rfl (by decide) ?_
      refine VL.r (.inl rfl) rfl (by decide) (yr_pick_t (u := .bool true) rfl rfl rfl) ?_
      refine VL.r (.inl rfl) rfl (by decide) (yr_move rfl rfl) ?_
      refine VL.no rfl rfl rfl rfl rfl (by decide) ?_
      refine VL.no rfl rfl rfl rfl rfl (by decide) ?_
      refine VL.no rfl rfl rfl rfl rfl (by decide) ?_
      refine VL.r (.inl rfl) rfl (by decide) (yr_pick_t (u := .bool true) rfl rfl rfl) ?_
      refine VL.r (.inl rfl) rfl (by decide) (yr_move rfl rfl) ?_
      refine VL.no rfl rfl rfl rfl rfl (by decide) ?_
      refine VL.no rfl rfl rfl rfl rfl (by decide) ?_
      refine VL.no rfl rfl rfl rfl rfl (by decide) ?_
      refine VL.r (.inl rfl) rfl (by decide) (yr_pick_t (u := .bool true) rfl rfl rfl) ?_
      refine VL.nil ?_
      refine VE.then_wp ?_
      refine V.condT rfl ?_
      refine V.seq ?_
      refine V.region ?_
      refine VL.r (.inl rfl) rfl (by decide) (yr_assign (u := .slice none 0 0) rfl rfl) ?_
      refine VL.r (.inl rfl) rfl (by decide) (yr_assign (u := .int .i64 0) rfl rfl) ?_
      refine VL.r (.inl rfl) rfl (by decide) (yr_assign (u := .bool false) rfl rfl) ?_
      refine VL.nil ?_
      refine VE.then_wp ?_
      refine V.ret ?_
      refine VE.then_ret ?_
      refine ret3 rfl rfl rfl rfl (by nofun) (by nofun) (by nofun) (fun w1 hw => ?_)
      first
        | (have hs : (fiOk ws (p1, p2, p3) st near rn) = true := fi_yes (fa_yes (by assumption) (by assumption) (by assumption) (by assumption)) (by assumption)
           have hkr : k = rn.toNat := by omega
           subst hkr
           have hm := fiM_all (ws := ws) (p := (p1, p2, p3)) (st := st) (near := near) hI
           have h9 : Hp _ [⟨a9, vl (fiL ws (p1, p2, p3) st near rn.toNat), c9 * 3, 53⟩] w1 := hw.pick (by apply Pick.one; repeat (first | exact Rem.here | apply Rem.there))
           exact ⟨(a9, c9), by rw [fiV_yes hs hm, fiS_yes hs hm, hs, fiL_length], by rw [fiV_yes hs hm]; exact h9.out1⟩)
        | (have hs : (fiOk ws (p1, p2, p3) st near rn) = true := fi_yes (fa_yes (by assumption) (by assumption) (by assumption) (by assumption)) (by assumption)
           have hm := fiM_at (ws := ws) (p := (p1, p2, p3)) (st := st) (near := near) (n := rn.toNat) hI (by omega) (by rw [fiK_succ hk2]; assumption)
           have h9 : Hp _ [⟨a9, vl (fiL ws (p1, p2, p3) st near k), c9 * 3, 53⟩] w1 := hw.pick (by apply Pick.one; repeat (first | exact Rem.here | apply Rem.there))
           exact ⟨(a9, c9), by rw [fiV_yes hs hm, fiS_yes hs hm, hs, fiL_length], by rw [fiV_yes hs hm]; exact h9.out1⟩)
        | (have hs : (fiOk ws (p1, p2, p3) st near rn) = false := by first | exact fi_2 (by assumption) | exact fi_1 (by first | exact fa_1 (by assumption) | exact fa_2 (by assumption) | exact fa_3 (by assumption) | exact fa_4 (by assumption))
           exact ⟨(none, 0), by rw [fiV_no hs, fiS_no hs, hs]; rfl, hw.below, by rw [fiV_no hs]; simp [vl, Ent.at], List.pairwise_singleton _ _⟩)
    · skip
      replace h3 := bnot_f h3
      refine VL.r (.inr ⟨_, _, _, rfl, rfl, rfl⟩) rfl (by decide) (yr_move rfl rfl) ?_
      refine VL.q (.inr ⟨_, _, _, rfl, rfl, rfl⟩) rfl (by decide) (yq_callf rfl known92_FiLine (.cons rfl .nil) (fun w hw => c_l01Finite _)) ?_
      refine VL.r (.inr ⟨_, _, _, rfl, rfl, rfl⟩) rfl (by decide) (yr_not rfl rfl) ?_
      refine VL.r (.inl rfl) rfl (by decide) (yr_pick_f rfl rfl rfl) ?_
      refine VL.r (.inl rfl) rfl (by decide) (yr_move rfl rfl) ?_
      refine VX.split 32 _ rfl (fun h5 => ?_) (fun h5 => ?_)
      · skip
        replace h5 := bnot_t h5
        refine VL.no rfl rfl rfl rfl rfl (by decide) ?_
        refine VL.no rfl rfl rfl rfl rfl (by decide) ?_
        refine VL.no rfl rfl rfl rfl rfl (by decide) ?_
        refine VL.r (.inl rfl) rfl (by decide) (yr_pick_t (u := .bool true) rfl rfl rfl) ?_
        refine VL.r (.inl rfl) rfl (by decide) (yr_move rfl rfl) ?_
        refine VL.no rfl rfl rfl rfl rfl (by decide) ?_
        refine VL.no rfl rfl rfl rfl rfl (by decide) ?_
        refine VL.no rfl rfl rfl rfl rfl (by decide) ?_
        refine VL.r (.inl rfl) rfl (by decide) (yr_pick_t (u := .bool true) rfl rfl rfl) ?_
        refine VL.nil ?_
        refine VE.then_wp ?_
        refine V.condT rfl ?_
        refine V.seq ?_
        refine V.region ?_
        refine VL.r (.inl rfl) rfl (by decide) (yr_assign (u := .slice none 0 0) rfl rfl) ?_
        refine VL.r (.inl rfl) rfl (by decide) (yr_assign (u := .int .i64 0) rfl rfl) ?_
        refine VL.r (.inl rfl) rfl (by decide) (yr_assign (u := .bool false) rfl rfl) ?_
        refine VL.nil ?_
        refine VE.then_wp ?_
        refine V.ret ?_
        refine VE.then_ret ?_
        refine ret3 rfl rfl rfl rfl (by nofun) (by nofun) (by nofun) (fun w1 hw => ?_)
        first
          | (have hs : (fiOk ws (p1, p2, p3) st near rn) = true := fi_yes (fa_yes (by assumption) (by assumption) (by assumption) (by assumption)) (by assumption)
             have hkr : k = rn.toNat := by omega
             subst hkr
             have hm := fiM_all (ws := ws) (p := (p1, p2, p3)) (st := st) (near := near) hI
             have h9 : Hp _ [⟨a9, vl (fiL ws (p1, p2, p3) st near rn.toNat), c9 * 3, 53⟩] w1 := hw.pick (by apply Pick.one; repeat (first | exact Rem.here | apply Rem.there))
             exact ⟨(a9, c9), by rw [fiV_yes hs hm, fiS_yes hs hm, hs, fiL_length], by rw [fiV_yes hs hm]; exact h9.out1⟩)
          | (have hs : (fiOk ws (p1, p2, p3) st near rn) = true := fi_yes (fa_yes (by assumption) (by assumption) (by assumption) (by assumption)) (by assumption)
             have hm := fiM_at (ws := ws) (p := (p1, p2, p3)) (st := st) (near := near) (n := rn.toNat) hI (by omega) (by rw [fiK_succ hk2]; assumption)
             have h9 : Hp _ [⟨a9, vl (fiL ws (p1, p2, p3) st near k), c9 * 3, 53⟩] w1 := hw.pick (by apply Pick.one; repeat (first | exact Rem.here | apply Rem.there))
             exact ⟨(a9, c9), by rw [fiV_yes hs hm, fiS_yes hs hm, hs, fiL_length], by rw [fiV_yes hs hm]; exact h9.out1⟩)
          | (have hs : (fiOk ws (p1, p2, p3) st near rn) = false := by first | exact fi_2 (by assumption) | exact fi_1 (by first | exact fa_1 (by assumption) | exact fa_2 (by assumption) | exact fa_3 (by assumption) | exact fa_4 (by assumption))
             exact ⟨(none, 0), by rw [fiV_no hs, fiS_no hs, hs]; rfl, hw.below, by rw [fiV_no hs]; simp [vl, Ent.at], List.pairwise_singleton _ _⟩)
      · skip
        replace h5 := bnot_f h5
        refine VL.r (.inr ⟨_, _, _, rfl, rfl, rfl⟩) rfl (by decide) (yr_move rfl rfl) ?_
        refine VL.q (.inr ⟨_, _, _, rfl, rfl, rfl⟩) rfl (by decide) (yq_callf rfl known103_FiLine (.cons rfl .nil) (fun w hw => c_l06Near)) ?_
        refine VL.r (.inr ⟨_, _, _, rfl, rfl, rfl⟩) rfl (by decide) (yr_not rfl rfl) ?_
        refine VL.r (.inl rfl) rfl (by decide) (yr_pick_f rfl rfl rfl) ?_
        refine VL.r (.inl rfl) rfl (by decide) (yr_move rfl rfl) ?_
        refine VX.split 37 _ rfl (fun h7 => ?_) (fun h7 => ?_)
        · skip
          replace h7 := bnot_t h7
          refine VL.no rfl rfl rfl rfl rfl (by decide) ?_
          refine VL.no rfl rfl rfl rfl rfl (by decide) ?_
          refine VL.no rfl rfl rfl rfl rfl (by decide) ?_
          refine VL.r (.inl rfl) rfl (by decide) (yr_pick_t (u := .bool true) rfl rfl rfl) ?_
          refine VL.nil ?_
          refine VE.then_wp ?_
          refine V.condT rfl ?_
          refine V.seq ?_
          refine V.region ?_
          refine VL.r (.inl rfl) rfl (by decide) (yr_assign (u := .slice none 0 0) rfl rfl) ?_
          refine VL.r (.inl rfl) rfl (by decide) (yr_assign (u := .int .i64 0) rfl rfl) ?_
          refine VL.r (.inl rfl) rfl (by decide) (yr_assign (u := .bool false) rfl rfl) ?_
          refine VL.nil ?_
          refine VE.then_wp ?_
          refine V.ret ?_
          refine VE.then_ret ?_
          refine ret3 rfl rfl rfl rfl (by nofun) (by nofun) (by nofun) (fun w1 hw => ?_)
          first
            | (have hs : (fiOk ws (p1, p2, p3) st near rn) = true := fi_yes (fa_yes (by assumption) (by assumption) (by assumption) (by assumption)) (by assumption)
               have hkr : k = rn.toNat := by omega
               subst hkr
               have hm := fiM_all (ws := ws) (p := (p1, p2, p3)) (st := st) (near := near) hI
               have h9 : Hp _ [⟨a9, vl (fiL ws (p1, p2, p3) st near rn.toNat), c9 * 3, 53⟩] w1 := hw.pick (by apply Pick.one; repeat (first | exact Rem.here | apply Rem.there))
               exact ⟨(a9, c9), by rw [fiV_yes hs hm, fiS_yes hs hm, hs, fiL_length], by rw [fiV_yes hs hm]; exact h9.out1⟩)
            | (have hs : (fiOk ws (p1, p2, p3) st near rn) = true := fi_yes (fa_yes (by assumption) (by assumption) (by assumption) (by assumption)) (by assumption)
               have hm := fiM_at (ws := ws) (p := (p1, p2, p3)) (st := st) (near := near) (n := rn.toNat) hI (by omega) (by rw [fiK_succ hk2]; assumption)
               have h9 : Hp _ [⟨a9, vl (fiL ws (p1, p2, p3) st near k), c9 * 3, 53⟩] w1 := hw.pick (by apply Pick.one; repeat (first | exact Rem.here | apply Rem.there))
               exact ⟨(a9, c9), by rw [fiV_yes hs hm, fiS_yes hs hm, hs, fiL_length], by rw [fiV_yes hs hm]; exact h9.out1⟩)
            | (have hs : (fiOk ws (p1, p2, p3) st near rn) = false := by first | exact fi_2 (by assumption) | exact fi_1 (by first | exact fa_1 (by assumption) | exact fa_2 (by assumption) | exact fa_3 (by assumption) | exact fa_4 (by assumption))
               exact ⟨(none, 0), by rw [fiV_no hs, fiS_no hs, hs]; rfl, hw.below, by rw [fiV_no hs]; simp [vl, Ent.at], List.pairwise_singleton _ _⟩)
        · skip
          replace h7 := bnot_f h7
          refine VL.r (.inr ⟨_, _, _, rfl, rfl, rfl⟩) rfl (by decide) (yr_move rfl rfl) ?_
          refine VL.q (.inr ⟨_, _, _, rfl, rfl, rfl⟩) rfl (by decide) (yq_callf rfl known99_FiLine (.cons rfl .nil) (fun w hw => c_l06Count)) ?_
          refine VL.r (.inr ⟨_, _, _, rfl, rfl, rfl⟩) rfl (by decide) (yr_not rfl rfl) ?_
          refine VL.r (.inl rfl) rfl (by decide) (yr_pick_f rfl rfl rfl) ?_
          refine VL.nil ?_
          refine VE.then_wp ?_
          refine V.cond rfl (fun h9 => ?_) (fun h9 => ?_)
          · skip
            replace h9 := bnot_t h9
            refine V.seq ?_
            refine V.region ?_
            refine VL.r (.inl rfl) rfl (by decide) (yr_assign (u := .slice none 0 0) rfl rfl) ?_
            refine VL.r (.inl rfl) rfl (by decide) (yr_assign (u := .int .i64 0) rfl rfl) ?_
            refine VL.r (.inl rfl) rfl (by decide) (yr_assign (u := .bool false) rfl rfl) ?_
            refine VL.nil ?_
            refine VE.then_wp ?_
            refine V.ret ?_
            refine VE.then_ret ?_
            refine ret3 rfl rfl rfl rfl (by nofun) (by nofun) (by nofun) (fun w1 hw => ?_)
            first
              | (have hs : (fiOk ws (p1, p2, p3) st near rn) = true := fi_yes (fa_yes (by assumption) (by assumption) (by assumption) (by assumption)) (by assumption)
                 have hkr : k = rn.toNat := by omega
                 subst hkr
                 have hm := fiM_all (ws := ws) (p := (p1, p2, p3)) (st := st) (near := near) hI
                 have h9 : Hp _ [⟨a9, vl (fiL ws (p1, p2, p3) st near rn.toNat), c9 * 3, 53⟩] w1 := hw.pick (by apply Pick.one; repeat (first | exact Rem.here | apply Rem.there))
                 exact ⟨(a9, c9), by rw [fiV_yes hs hm, fiS_yes hs hm, hs, fiL_length], by rw [fiV_yes hs hm]; exact h9.out1⟩)
              | (have hs : (fiOk ws (p1, p2, p3) st near rn) = true := fi_yes (fa_yes (by assumption) (by assumption) (by assumption) (by assumption)) (by assumption)
                 have hm := fiM_at (ws := ws) (p := (p1, p2, p3)) (st := st) (near := near) (n := rn.toNat) hI (by omega) (by rw [fiK_succ hk2]; assumption)
                 have h9 : Hp _ [⟨a9, vl (fiL ws (p1, p2, p3) st near k), c9 * 3, 53⟩] w1 := hw.pick (by apply Pick.one; repeat (first | exact Rem.here | apply Rem.there))
                 exact ⟨(a9, c9), by rw [fiV_yes hs hm, fiS_yes hs hm, hs, fiL_length], by rw [fiV_yes hs hm]; exact h9.out1⟩)
              | (have hs : (fiOk ws (p1, p2, p3) st near rn) = false := by first | exact fi_2 (by assumption) | exact fi_1 (by first | exact fa_1 (by assumption) | exact fa_2 (by assumption) | exact fa_3 (by assumption) | exact fa_4 (by assumption))
                 exact ⟨(none, 0), by rw [fiV_no hs, fiS_no hs, hs]; rfl, hw.below, by rw [fiV_no hs]; simp [vl, Ent.at], List.pairwise_singleton _ _⟩)
          · skip
            replace h9 := bnot_f h9
            refine V.skip ?_
            refine VE.then_wp ?_
            refine V.seq ?_
            refine V.region ?_
            refine VL.q (.inl rfl) rfl (by decide) (yq_loadS rfl Try.underlying53 sz53_FiLine rfl (by first | exact Sees.root (by assumption) | exact Sees.own (by repeat (first | exact List.mem_cons_self | exact List.mem_append_left _ (by assumption) | apply List.mem_cons_of_mem | apply List.mem_append_right)) | exact Sees.root (hR _ (by omega)) | exact Sees.own (RowsIn.mem (by repeat (first | exact RowsIn.here | exact RowsIn.last | apply RowsIn.there | apply RowsIn.thereS)) _ (by omega)) | exact Sees.own (WRowsIn.mem (by repeat (first | exact WRowsIn.here | exact WRowsIn.last | apply WRowsIn.there | apply WRowsIn.thereS)) _ (by omega))) rfl rfl rfl) ?_
            refine VL.new1 (.inl rfl) rfl (by decide) (yn_buildSlice rfl Try.underlying51 elt53_FiLine rfl (by decide) (.cons rfl .nil) (by simp) rfl rfl) ?_
            intro b43
            refine VL.r (.inl rfl) rfl (by decide) (yr_assign rfl rfl) ?_
            refine VL.nil ?_
            refine VE.then_wp ?_
            refine V.seq ?_
            refine V.region ?_
            refine VL.r (.inl rfl) rfl (by decide) (yr_assign (u := .int .i64 0) rfl rfl) ?_
            refine VL.nil ?_
            refine VE.then_wp ?_
            refine V.seq ?_
            refine V.seq ?_
            refine V.region ?_
            refine VL.r (.inl rfl) rfl (by decide) (yr_assign (u := .int .i64 0) rfl rfl) ?_
            refine VL.nil ?_
            refine VE.then_wp ?_
            refine V.block ?_
            refine V.loopc (G := Nat × (Option Addr) × Nat) [(0, _), (2, _), (3, _), (4, _)] (fun ⟨k, a9, c9⟩ => k ≤ rn.toNat ∧ (∀ j, j < k → (fiK ws (p1, p2, p3) st near (j + 1)).2.2 = true) ∧ (fiK ws (p1, p2, p3) st near k).2.2 = true ∧ fin3 (fiK ws (p1, p2, p3) st near k).1 = true) (fun ⟨k, a9, c9⟩ => [⟨a9, vl (fiL ws (p1, p2, p3) st near k), c9 * 3, 53⟩, ⟨some ⟨b6, 0, none⟩, [.float .f32 ((p1, p2, p3)).1, .float .f32 ((p1, p2, p3)).2.1, .float .f32 ((p1, p2, p3)).2.2], 3, 53⟩]) (fun ⟨k, a9, c9⟩ => [(13, .slice a9 (k + 1) c9), (14, .int .i64 ((fiK ws (p1, p2, p3) st near k).2.1 : Int)), (15, .int .i64 (k : Int))]) (fun ⟨k, a9, c9⟩ => rn.toNat - k) (0, some ⟨b43, 0, none⟩, 1) (.cons rfl (.cons rfl (.cons rfl (.cons rfl .nil)))) (.cons rfl (.cons (congrArg (fun i => some (Value.int .i64 i)) (by rw [fiK_zero]; rfl)) (.cons (congrArg (fun i => some (Value.int .i64 i)) (by omega)) .nil))) ?_ ?_ ?_
            · exact (fun w hw => by dsimp only; rw [fiL_zero]; exact hw)
            · exact (by dsimp only; rw [fiK_zero]; exact ⟨by omega, fun j h => by omega, rfl, by assumption⟩)
            rintro ⟨k, a9, c9⟩ ⟨hk, hI, hk2, hk3⟩
            show V _ _ _ [⟨a9, vl (fiL ws (p1, p2, p3) st near k), c9 * 3, 53⟩, ⟨some ⟨b6, 0, none⟩, [.float .f32 ((p1, p2, p3)).1, .float .f32 ((p1, p2, p3)).2.1, .float .f32 ((p1, p2, p3)).2.2], 3, 53⟩] ([(13, .slice a9 (k + 1) c9), (14, .int .i64 ((fiK ws (p1, p2, p3) st near k).2.1 : Int)), (15, .int .i64 (k : Int))] ++ [(0, _), (2, _), (3, _), (4, _)]) _ _
            have hs1 := fiK_sum_le (ws := ws) (p := (p1, p2, p3)) (st := st) (near := near) k
            have hs2 := fnN_le (ws := ws) (p := (fiK ws (p1, p2, p3) st near k).1) (st := st) (near := near)
            have hs3 : fnN ws ((fiK ws (p1, p2, p3) st near k).1.1, (fiK ws (p1, p2, p3) st near k).1.2.1, (fiK ws (p1, p2, p3) st near k).1.2.2) st near = fnN ws (fiK ws (p1, p2, p3) st near k).1 st near := rfl
            have hrn9 := of_decide_eq_true (p := 0 ≤ rn ∧ rn ≤ 63) (by assumption)
            refine V.seq ?_
            refine V.seq ?_
            refine V.region ?_
            refine VL.r (.inl rfl) rfl (by decide) (yr_move rfl rfl) ?_
            refine VL.r (.inl rfl) rfl (by decide) (yr_move rfl rfl) ?_
            refine VL.r (.inl rfl) rfl (by decide) (yr_icmp rfl (.inr (.inr (.inl rfl))) rfl rfl) ?_
            refine VL.nil ?_
            refine VE.then_wp ?_
            refine V.cond rfl (fun h10 => ?_) (fun h10 => ?_)
            · skip
              replace h10 := ic_lss h10
              refine V.skip ?_
              refine VE.then_wp ?_
              refine V.seq ?_
              refine V.block ?_
              refine V.seq ?_
              refine Dr.V.drawR [(0, 5), (2, 5), (3, 5), (4, 5), (5, 5), (6, 5), (7, 5), (1, 1), (8, 0), (9, 5), (10, 5), (11, 5), (12, 5), (13, 2), (14, 3), (15, 5), (16, 5)] [(13, ((fun b => .pointer (some (adr (some ⟨b, 0, none⟩) 0))), (fun b => ⟨some ⟨b, 0, none⟩, [Value.float .f32 0, Value.float .f32 0, Value.float .f32 0], 3, 53⟩)))] [] _ mixed_FiLine (by kernel_rfl) (fun w hw => hw) ?_
              refine Dr.SW.r rfl (.inl rfl) rfl (by decide) (yr_move rfl rfl) ?_
              refine Dr.SW.r rfl (.inl rfl) rfl (by decide) (yr_move rfl rfl) ?_
              refine Dr.SW.r rfl (.inl rfl) rfl (by decide) (yr_move rfl rfl) ?_
              refine Dr.SW.p rfl (.inl rfl) rfl (by decide) (yq_idxN (k := k) rfl Try.underlying51 sz53_FiLine rfl rfl (by first | exact Sees.root (by assumption) | exact Sees.own (by (try simp only [List.append_assoc, List.cons_append, List.nil_append]); repeat (first | exact List.mem_cons_self | exact List.mem_append_left _ (by assumption) | apply List.mem_cons_of_mem | apply List.mem_append_right)) | exact Sees.root (hR _ (by omega)) | exact Sees.own (RowsIn.mem (by (try simp only [List.append_assoc, List.cons_append, List.nil_append]); repeat (first | exact RowsIn.here | exact RowsIn.last | apply RowsIn.there | apply RowsIn.thereS)) _ (by omega)) | exact Sees.own (WRowsIn.mem (by (try simp only [List.append_assoc, List.cons_append, List.nil_append]); repeat (first | exact WRowsIn.here | exact WRowsIn.last | apply WRowsIn.there | apply WRowsIn.thereS)) _ (by omega))) (by first | rfl | omega | (push_cast; rfl) | (push_cast; omega) | exact tmod_nat _ _) (by rw [vl_length, fiL_length]) (by decide) (by omega)) ?_
              refine Dr.SW.p rfl (.inl rfl) rfl (by decide) (show YQ _ _ _ _ _ (vv (fiK ws (p1, p2, p3) st near k).1) from by rw [← fiL_get (ws := ws) (p := (p1, p2, p3)) (st := st) (near := near) (k := k) (i := k) (by omega)]; exact yq_loadV rfl Try.underlying53 sz53_FiLine rfl (by first | exact Sees.root (by assumption) | exact Sees.own (by (try simp only [List.append_assoc, List.cons_append, List.nil_append]); repeat (first | exact List.mem_cons_self | exact List.mem_append_left _ (by assumption) | apply List.mem_cons_of_mem | apply List.mem_append_right)) | exact Sees.root (hR _ (by omega)) | exact Sees.own (RowsIn.mem (by (try simp only [List.append_assoc, List.cons_append, List.nil_append]); repeat (first | exact RowsIn.here | exact RowsIn.last | apply RowsIn.there | apply RowsIn.thereS)) _ (by omega)) | exact Sees.own (WRowsIn.mem (by (try simp only [List.append_assoc, List.cons_append, List.nil_append]); repeat (first | exact WRowsIn.here | exact WRowsIn.last | apply WRowsIn.there | apply WRowsIn.thereS)) _ (by omega))) (by rw [fiL_length]; omega)) ?_
              refine Dr.SW.r rfl (.inl rfl) rfl (by decide) (yr_move rfl rfl) ?_
              refine Dr.SW.r rfl (.inl rfl) rfl (by decide) (yr_move rfl rfl) ?_
              refine Dr.SW.new1 rfl (.inl rfl) rfl (by decide) (yn_callf rfl known93_FiLine (.cons rfl .nil) (fun w hw => c_l06Wires)) ?_
              intro b51
              refine Dr.SW.q rfl (.inl rfl) rfl (by decide) (yq_callf rfl known104_FiLine (.cons rfl (.cons rfl (.cons rfl (.cons rfl .nil)))) (fun w hw => (c_l06Fine (q := some ⟨b51, 0, none⟩) (p1 := (fiK ws (p1, p2, p3) st near k).1.1) (p2 := (fiK ws (p1, p2, p3) st near k).1.2.1) (p3 := (fiK ws (p1, p2, p3) st near k).1.2.2) (by first | exact Sees.root (by assumption) w hw | exact Sees.own (by (try simp only [List.append_assoc, List.cons_append, List.nil_append]); repeat (first | exact List.mem_cons_self | exact List.mem_append_left _ (by assumption) | apply List.mem_cons_of_mem | apply List.mem_append_right)) w hw) (by first | exact Sees.root (by assumption) w hw | exact Sees.own (by (try simp only [List.append_assoc, List.cons_append, List.nil_append]); repeat (first | exact List.mem_cons_self | exact List.mem_append_left _ (by assumption) | apply List.mem_cons_of_mem | apply List.mem_append_right)) w hw) (by first | exact WRws.root (by assumption) hw | exact WRws.own (by (try simp only [List.append_assoc, List.cons_append, List.nil_append]); repeat (first | exact WRowsIn.here | exact WRowsIn.last | apply WRowsIn.there | apply WRowsIn.thereS)) hw) (by omega) (by assumption) hk3))) ?_
              refine Dr.SW.r rfl (.inl rfl) rfl (by decide) (yr_move rfl rfl) ?_
              refine Dr.SW.r rfl (.inl rfl) rfl (by decide) (yr_extract rfl rfl rfl (by nofun)) ?_
              refine Dr.SW.r rfl (.inl rfl) rfl (by decide) (yr_extract rfl rfl rfl (by nofun)) ?_
              refine Dr.SW.r rfl (.inl rfl) rfl (by decide) (yr_extract rfl rfl rfl (by nofun)) ?_
              refine Dr.SW.a rfl rfl rfl (by decide) rfl (fun w0 => (yn_alloc rfl zero53_FiLine rfl)) ?_
              intro b16
              refine Dr.SW.s rfl (.inl rfl) rfl (yc_store rfl sz53_FiLine rfl rfl (Dr.UpdF.app (by repeat (first | exact UpdF.here | apply UpdF.there | apply UpdF.thereS))) (.inr ⟨rfl, rfl⟩) rfl (by first | exact Nat.le_of_ble_eq_true rfl | simp) (by decide) rfl) ?_
              rintro ⟨⟩
              refine Dr.SW.r rfl (.inl rfl) rfl (by decide) (yr_assign rfl rfl) ?_
              refine Dr.SW.r rfl (.inl rfl) rfl (by decide) (yr_assign rfl rfl) ?_
              refine Dr.SW.done ?_
              refine Dr.eqO (by simp only [List.append_nil, List.append_assoc, List.cons_append, List.nil_append] <;> rfl) ?_
              refine VE.then_wp ?_
              refine V.seq ?_
              refine V.seq ?_
              refine V.region ?_
              refine VL.r (.inl rfl) rfl (by decide) (yr_move rfl rfl) ?_
              refine VL.r (.inl rfl) rfl (by decide) (yr_not rfl rfl) ?_
              refine VL.nil ?_
              refine VE.then_wp ?_
              refine V.cond rfl (fun h11 => ?_) (fun h11 => ?_)
              · skip
                replace h11 := bnot_t h11
                refine V.exit ?_
                refine VE.then_exit ?_
                refine VE.block_on rfl ?_
                refine VE.then_exit ?_
                refine VE.then_exit ?_
                refine VE.block_here ?_
                refine VE.then_wp ?_
                refine V.seq ?_
                refine V.region ?_
                refine VL.r (.inl rfl) rfl (by decide) (yr_move rfl rfl) ?_
                refine VL.r (.inl rfl) rfl (by decide) (yr_move rfl rfl) ?_
                refine VL.r (.inl rfl) rfl (by decide) (yr_assign rfl rfl) ?_
                refine VL.r (.inl rfl) rfl (by decide) (yr_assign rfl rfl) ?_
                refine VL.r (.inl rfl) rfl (by decide) (yr_assign (u := .bool true) rfl rfl) ?_
                refine VL.nil ?_
                refine VE.then_wp ?_
                refine V.ret ?_
                refine ret3 rfl rfl rfl rfl (by nofun) (by nofun) (by nofun) (fun w1 hw => ?_)
                first
                  | (have hs : (fiOk ws (p1, p2, p3) st near rn) = true := fi_yes (fa_yes (by assumption) (by assumption) (by assumption) (by assumption)) (by assumption)
                     have hkr : k = rn.toNat := by omega
                     subst hkr
                     have hm := fiM_all (ws := ws) (p := (p1, p2, p3)) (st := st) (near := near) hI
                     have h9 : Hp _ [⟨a9, vl (fiL ws (p1, p2, p3) st near rn.toNat), c9 * 3, 53⟩] w1 := hw.pick (by apply Pick.one; repeat (first | exact Rem.here | apply Rem.there))
                     exact ⟨(a9, c9), by rw [fiV_yes hs hm, fiS_yes hs hm, hs, fiL_length], by rw [fiV_yes hs hm]; exact h9.out1⟩)
                  | (have hs : (fiOk ws (p1, p2, p3) st near rn) = true := fi_yes (fa_yes (by assumption) (by assumption) (by assumption) (by assumption)) (by assumption)
                     have hm := fiM_at (ws := ws) (p := (p1, p2, p3)) (st := st) (near := near) (n := rn.toNat) hI (by omega) (by rw [fiK_succ hk2]; assumption)
                     have h9 : Hp _ [⟨a9, vl (fiL ws (p1, p2, p3) st near k), c9 * 3, 53⟩] w1 := hw.pick (by apply Pick.one; repeat (first | exact Rem.here | apply Rem.there))
                     exact ⟨(a9, c9), by rw [fiV_yes hs hm, fiS_yes hs hm, hs, fiL_length], by rw [fiV_yes hs hm]; exact h9.out1⟩)
                  | (have hs : (fiOk ws (p1, p2, p3) st near rn) = false := by first | exact fi_2 (by assumption) | exact fi_1 (by first | exact fa_1 (by assumption) | exact fa_2 (by assumption) | exact fa_3 (by assumption) | exact fa_4 (by assumption))
                     exact ⟨(none, 0), by rw [fiV_no hs, fiS_no hs, hs]; rfl, hw.below, by rw [fiV_no hs]; simp [vl, Ent.at], List.pairwise_singleton _ _⟩)
              · skip
                replace h11 := bnot_f h11
                refine V.skip ?_
                refine VE.then_wp ?_
                refine V.seq ?_
                refine V.region ?_
                refine VL.r (.inl rfl) rfl (by decide) (yr_move rfl rfl) ?_
                refine VL.q (.inl rfl) rfl (by decide) (yq_loadS rfl Try.underlying53 sz53_FiLine rfl (by first | exact Sees.root (by assumption) | exact Sees.own (by repeat (first | exact List.mem_cons_self | exact List.mem_append_left _ (by assumption) | apply List.mem_cons_of_mem | apply List.mem_append_right)) | exact Sees.root (hR _ (by omega)) | exact Sees.own (RowsIn.mem (by repeat (first | exact RowsIn.here | exact RowsIn.last | apply RowsIn.there | apply RowsIn.thereS)) _ (by omega)) | exact Sees.own (WRowsIn.mem (by repeat (first | exact WRowsIn.here | exact WRowsIn.last | apply WRowsIn.there | apply WRowsIn.thereS)) _ (by omega))) rfl rfl rfl) ?_
                refine VL.new1 (.inl rfl) rfl (by decide) (yn_buildSlice rfl Try.underlying51 elt53_FiLine rfl (by decide) (.cons rfl .nil) (by simp) rfl rfl) ?_
                intro b66
                refine VL.c (.inl rfl) rfl (by decide) (yc_appendz 3 rfl rfl Try.underlying51 elt53_FiLine rfl rfl (by repeat (first | exact UpdF.here | apply UpdF.there | apply UpdF.thereS)) (by first | exact Sees.root (by assumption) | exact Sees.own (by repeat (first | exact List.mem_cons_self | exact List.mem_append_left _ (by assumption) | apply List.mem_cons_of_mem | apply List.mem_append_right)) | exact Sees.root (hR _ (by omega)) | exact Sees.own (RowsIn.mem (by repeat (first | exact RowsIn.here | exact RowsIn.last | apply RowsIn.there | apply RowsIn.thereS)) _ (by omega)) | exact Sees.own (WRowsIn.mem (by repeat (first | exact WRowsIn.here | exact WRowsIn.last | apply WRowsIn.there | apply WRowsIn.thereS)) _ (by omega))) rfl (by rw [vl_length, fiL_length]) rfl (vl_scal _) rfl (by omega) (by omega)) ?_
                rintro ⟨a67, c67⟩
                refine VL.r (.inl rfl) rfl (by decide) (yr_assign rfl rfl) ?_
                refine VL.nil ?_
                refine VE.then_wp ?_
                refine V.region ?_
                refine VL.r (.inl rfl) rfl (by decide) (yr_move rfl rfl) ?_
                refine VL.r (.inl rfl) rfl (by decide) (yr_move rfl rfl) ?_
                refine VL.r (.inl rfl) rfl (by decide) (yr_int rfl rfl rfl (.inl ⟨rfl, wrap_in (by omega)⟩)) ?_
                refine VL.r (.inl rfl) rfl (by decide) (yr_assign rfl rfl) ?_
                refine VL.nil ?_
                refine VE.block_normal ?_
                refine VE.then_wp ?_
                refine V.region ?_
                refine VL.r (.inl rfl) rfl (by decide) (yr_move rfl rfl) ?_
                refine VL.r (.inl rfl) rfl (by decide) (yr_int rfl rfl rfl (.inl ⟨rfl, wrap_in (by omega)⟩)) ?_
                refine VL.r (.inl rfl) rfl (by decide) (yr_assign rfl rfl) ?_
                refine VL.nil ?_
                refine VE.round (k + 1, a67, c67) ?_ ?_ ?_ ?_ ?_
                · exact (.cons rfl (.cons (congrArg (fun i => some (Value.int .i64 i)) (by rw [fiK_sum hk2]; omega)) (.cons (congrArg (fun i => some (Value.int .i64 i)) (by omega)) .nil)))
                · exact (.cons rfl (.cons rfl (.cons rfl (.cons rfl .nil))))
                · exact (fun w hw => by
                    have h9 : Hp _ [⟨a67, vl (fiL ws (p1, p2, p3) st near k) ++ vl [fnV ws (fiK ws (p1, p2, p3) st near k).1 st near], c67 * 3, 53⟩, ⟨some ⟨b6, 0, none⟩, [.float .f32 ((p1, p2, p3)).1, .float .f32 ((p1, p2, p3)).2.1, .float .f32 ((p1, p2, p3)).2.2], 3, 53⟩] w := hw.pick (by apply Pick.two; all_goals (repeat (first | exact Rem.here | apply Rem.there)))
                    dsimp only
                    rw [← fiL_snoc, ← fiK_box hk2]
                    exact h9)
                · exact ⟨by omega, fun j hj => by rcases Nat.lt_or_ge j k with h | h; exact hI j h; obtain rfl : j = k := (by omega); exact (fiK_ok hk2 hk3 (by assumption)).1, fiK_ok hk2 hk3 (by assumption)⟩
                · (try dsimp only); omega
            · skip
              replace h10 := ic_lss' h10
              refine V.exit ?_
              refine VE.then_exit ?_
              refine VE.then_exit ?_
              refine VE.block_here ?_
              refine VE.then_wp ?_
              refine V.seq ?_
              refine V.region ?_
              refine VL.r (.inl rfl) rfl (by decide) (yr_move rfl rfl) ?_
              refine VL.r (.inl rfl) rfl (by decide) (yr_move rfl rfl) ?_
              refine VL.r (.inl rfl) rfl (by decide) (yr_assign rfl rfl) ?_
              refine VL.r (.inl rfl) rfl (by decide) (yr_assign rfl rfl) ?_
              refine VL.r (.inl rfl) rfl (by decide) (yr_assign (u := .bool true) rfl rfl) ?_
              refine VL.nil ?_
              refine VE.then_wp ?_
              refine V.ret ?_
              refine ret3 rfl rfl rfl rfl (by nofun) (by nofun) (by nofun) (fun w1 hw => ?_)
              first
                | (have hs : (fiOk ws (p1, p2, p3) st near rn) = true := fi_yes (fa_yes (by assumption) (by assumption) (by assumption) (by assumption)) (by assumption)
                   have hkr : k = rn.toNat := by omega
                   subst hkr
                   have hm := fiM_all (ws := ws) (p := (p1, p2, p3)) (st := st) (near := near) hI
                   have h9 : Hp _ [⟨a9, vl (fiL ws (p1, p2, p3) st near rn.toNat), c9 * 3, 53⟩] w1 := hw.pick (by apply Pick.one; repeat (first | exact Rem.here | apply Rem.there))
                   exact ⟨(a9, c9), by rw [fiV_yes hs hm, fiS_yes hs hm, hs, fiL_length], by rw [fiV_yes hs hm]; exact h9.out1⟩)
                | (have hs : (fiOk ws (p1, p2, p3) st near rn) = true := fi_yes (fa_yes (by assumption) (by assumption) (by assumption) (by assumption)) (by assumption)
                   have hm := fiM_at (ws := ws) (p := (p1, p2, p3)) (st := st) (near := near) (n := rn.toNat) hI (by omega) (by rw [fiK_succ hk2]; assumption)
                   have h9 : Hp _ [⟨a9, vl (fiL ws (p1, p2, p3) st near k), c9 * 3, 53⟩] w1 := hw.pick (by apply Pick.one; repeat (first | exact Rem.here | apply Rem.there))
                   exact ⟨(a9, c9), by rw [fiV_yes hs hm, fiS_yes hs hm, hs, fiL_length], by rw [fiV_yes hs hm]; exact h9.out1⟩)
                | (have hs : (fiOk ws (p1, p2, p3) st near rn) = false := by first | exact fi_2 (by assumption) | exact fi_1 (by first | exact fa_1 (by assumption) | exact fa_2 (by assumption) | exact fa_3 (by assumption) | exact fa_4 (by assumption))
                   exact ⟨(none, 0), by rw [fiV_no hs, fiS_no hs, hs]; rfl, hw.below, by rw [fiV_no hs]; simp [vl, Ent.at], List.pairwise_singleton _ _⟩)

theorem c_implFiL {w : World} {a : Option Addr} {c : Nat} {f : Nat → Option Addr × Nat} {ws : List Wr} {p1 p2 p3 : Nat} {st near : Nat} {rn : Int} (hA : Cl w a (whd f ws)) (hR : WRws w f ws) (hn : wbulk ws ≤ 1050000) : New Try.prog 44 [.slice a ws.length c, vv (p1, p2, p3), .float .f32 st, .float .f32 near, .int .i64 rn] w (fun p : Option Addr × Nat => .tuple #[.slice p.1 (fiV ws (p1, p2, p3) st near rn).length p.2, .int .i64 ((fiS ws (p1, p2, p3) st near rn) : Int), .bool (fiOk ws (p1, p2, p3) st near rn)]) (fun p => [⟨p.1, vl (fiV ws (p1, p2, p3) st near rn), p.2 * 3, 53⟩]) := by
  refine New.enter Try.func44 rfl Try.ntmps44 (Nat.le_of_ble_eq_true rfl) ?_
  have hwl : ws.length ≤ wbulk ws := by unfold wbulk; omega
  have hrw : ∀ k, k < ws.length → (ws.getD k zw).1.length ≤ 1050000 := fun k hk => by have := wbulk_row hk; omega
  refine V.seq ?_
  refine V.region ?_
  refine VL.new1 (.inl rfl) rfl (by decide) (yn_box rfl rfl (.inr ⟨rfl, rfl⟩)) ?_
  intro b6
  refine VL.r (.inl rfl) rfl (by decide) (yr_assign (u := .slice none 0 0) rfl rfl) ?_
  refine VL.r (.inl rfl) rfl (by decide) (yr_assign (u := .int .i64 0) rfl rfl) ?_
  refine VL.r (.inl rfl) rfl (by decide) (yr_assign (u := .bool false) rfl rfl) ?_
  refine VL.nil ?_
  refine VE.then_wp ?_
  refine V.seq ?_
  refine V.seq ?_
  refine V.region ?_
  refine VL.r (.inl rfl) rfl (by decide) (yr_move rfl rfl) ?_
  refine VL.q (.inl rfl) rfl (by decide) (yq_loadS rfl Try.underlying53 sz53_FiLine rfl (by first | exact Sees.root (by assumption) | exact Sees.own (by repeat (first | exact List.mem_cons_self | exact List.mem_append_left _ (by assumption) | apply List.mem_cons_of_mem | apply List.mem_append_right)) | exact Sees.root (hR _ (by omega)) | exact Sees.own (RowsIn.mem (by repeat (first | exact RowsIn.here | exact RowsIn.last | apply RowsIn.there | apply RowsIn.thereS)) _ (by omega)) | exact Sees.own (WRowsIn.mem (by repeat (first | exact WRowsIn.here | exact WRowsIn.last | apply WRowsIn.there | apply WRowsIn.thereS)) _ (by omega))) rfl rfl rfl) ?_
  refine VL.r (.inl rfl) rfl (by decide) (yr_move rfl rfl) ?_
  refine VL.r (.inl rfl) rfl (by decide) (yr_move rfl rfl) ?_
  refine VL.q (.inl rfl) rfl (by decide) (yq_callf rfl known105_FiLine (.cons rfl (.cons rfl (.cons rfl (.cons rfl .nil)))) (fun w hw => (c_areFine (by first | exact Sees.root (by assumption) w hw | exact Sees.own (by repeat (first | exact List.mem_cons_self | exact List.mem_append_left _ (by assumption) | apply List.mem_cons_of_mem | apply List.mem_append_right)) w hw) (by first | exact WRws.root (by assumption) hw | exact WRws.own (by repeat (first | exact WRowsIn.here | exact WRowsIn.last | apply WRowsIn.there | apply WRowsIn.thereS)) hw) (by omega)))) ?_
  refine VL.r (.inl rfl) rfl (by decide) (yr_not rfl rfl) ?_
  refine VL.r (.inl rfl) rfl (by decide) (yr_move rfl rfl) ?_
  refine VX.split 24 _ rfl (fun h1 => ?_) (fun h1 => ?_)
  · skip
    replace h1 := bnot_t h1
    refine VL.no rfl rfl rfl rfl rfl (by decide) ?_
    refine VL.no rfl rfl rfl rfl rfl (by decide) ?_
    refine VL.no rfl rfl rfl rfl rfl (by decide) ?_
    refine VL.r (.inl rfl) rfl (by decide) (yr_pick_t (u := .bool true) rfl rfl rfl) ?_
    refine VL.nil ?_
    refine VE.then_wp ?_
    refine V.condT rfl ?_
    refine V.seq ?_
    refine V.region ?_
    refine VL.r (.inl rfl) rfl (by decide) (yr_assign (u := .slice none 0 0) rfl rfl) ?_
    refine VL.r (.inl rfl) rfl (by decide) (yr_assign (u := .int .i64 0) rfl rfl) ?_
    refine VL.r (.inl rfl) rfl (by decide) (yr_assign (u := .bool false) rfl rfl) ?_
    refine VL.nil ?_
    refine VE.then_wp ?_
    refine V.ret ?_
    refine VE.then_ret ?_
    refine ret3 rfl rfl rfl rfl (by nofun) (by nofun) (by nofun) (fun w1 hw => ?_)
    first
      | (have hs : (fiOk ws (p1, p2, p3) st near rn) = true := fi_yes (by assumption) (by assumption)
         have hkr : k = rn.toNat := by omega
         subst hkr
         have hm := fiM_all (ws := ws) (p := (p1, p2, p3)) (st := st) (near := near) hI
         have h9 : Hp _ [⟨a9, vl (fiL ws (p1, p2, p3) st near rn.toNat), c9 * 3, 53⟩] w1 := hw.pick (by apply Pick.one; repeat (first | exact Rem.here | apply Rem.there))
         exact ⟨(a9, c9), by rw [fiV_yes hs hm, fiS_yes hs hm, hs, fiL_length], by rw [fiV_yes hs hm]; exact h9.out1⟩)
      | (have hs : (fiOk ws (p1, p2, p3) st near rn) = true := fi_yes (by assumption) (by assumption)
         have hm := fiM_at (ws := ws) (p := (p1, p2, p3)) (st := st) (near := near) (n := rn.toNat) hI (by omega) (by rw [fiK_succ hk2]; assumption)
         have h9 : Hp _ [⟨a9, vl (fiL ws (p1, p2, p3) st near k), c9 * 3, 53⟩] w1 := hw.pick (by apply Pick.one; repeat (first | exact Rem.here | apply Rem.there))
         exact ⟨(a9, c9), by rw [fiV_yes hs hm, fiS_yes hs hm, hs, fiL_length], by rw [fiV_yes hs hm]; exact h9.out1⟩)
      | (have hs : (fiOk ws (p1, p2, p3) st near rn) = false := by first | exact fi_2 (by assumption) | exact fi_1 (by first | exact fa_1 (by assumption) | assumption)
         exact ⟨(none, 0), by rw [fiV_no hs, fiS_no hs, hs]; rfl, hw.below, by rw [fiV_no hs]; simp [vl, Ent.at], List.pairwise_singleton _ _⟩)
  · skip
    replace h1 := bnot_f h1
    have hvp := fa_is h1
    have hv := hvp.1
    have hvf := hvp.2
    refine VL.r (.inr ⟨_, _, _, rfl, rfl, rfl⟩) rfl (by decide) (yr_move rfl rfl) ?_
    refine VL.q (.inr ⟨_, _, _, rfl, rfl, rfl⟩) rfl (by decide) (yq_callf rfl known101_FiLine (.cons rfl .nil) (fun w hw => c_isLC)) ?_
    refine VL.r (.inr ⟨_, _, _, rfl, rfl, rfl⟩) rfl (by decide) (yr_not rfl rfl) ?_
    refine VL.r (.inl rfl) rfl (by decide) (yr_pick_f rfl rfl rfl) ?_
    refine VL.nil ?_
    refine VE.then_wp ?_
    refine V.cond rfl (fun h3 => ?_) (fun h3 => ?_)
    · skip
      replace h3 := bnot_t h3
      refine V.seq ?_
      refine V.region ?_
      refine VL.r (.inl rfl) rfl (by decide) (yr_assign (u := .slice none 0 0) rfl rfl) ?_
      refine VL.r (.inl rfl) rfl (by decide) (yr_assign (u := .int .i64 0) rfl rfl) ?_
      refine VL.r (.inl rfl) rfl (by decide) (yr_assign (u := .bool false) rfl rfl) ?_
      refine VL.nil ?_
      refine VE.then_wp ?_
      refine V.ret ?_
      refine VE.then_ret ?_
      refine ret3 rfl rfl rfl rfl (by nofun) (by nofun) (by nofun) (fun w1 hw => ?_)
      first
        | (have hs : (fiOk ws (p1, p2, p3) st near rn) = true := fi_yes (by assumption) (by assumption)
           have hkr : k = rn.toNat := by omega
           subst hkr
           have hm := fiM_all (ws := ws) (p := (p1, p2, p3)) (st := st) (near := near) hI
           have h9 : Hp _ [⟨a9, vl (fiL ws (p1, p2, p3) st near rn.toNat), c9 * 3, 53⟩] w1 := hw.pick (by apply Pick.one; repeat (first | exact Rem.here | apply Rem.there))
           exact ⟨(a9, c9), by rw [fiV_yes hs hm, fiS_yes hs hm, hs, fiL_length], by rw [fiV_yes hs hm]; exact h9.out1⟩)
        | (have hs : (fiOk ws (p1, p2, p3) st near rn) = true := fi_yes (by assumption) (by assumption)
           have hm := fiM_at (ws := ws) (p := (p1, p2, p3)) (st := st) (near := near) (n := rn.toNat) hI (by omega) (by rw [fiK_succ hk2]; assumption)
           have h9 : Hp _ [⟨a9, vl (fiL ws (p1, p2, p3) st near k), c9 * 3, 53⟩] w1 := hw.pick (by apply Pick.one; repeat (first | exact Rem.here | apply Rem.there))
           exact ⟨(a9, c9), by rw [fiV_yes hs hm, fiS_yes hs hm, hs, fiL_length], by rw [fiV_yes hs hm]; exact h9.out1⟩)
        | (have hs : (fiOk ws (p1, p2, p3) st near rn) = false := by first | exact fi_2 (by assumption) | exact fi_1 (by first | exact fa_1 (by assumption) | assumption)
           exact ⟨(none, 0), by rw [fiV_no hs, fiS_no hs, hs]; rfl, hw.below, by rw [fiV_no hs]; simp [vl, Ent.at], List.pairwise_singleton _ _⟩)
    · skip
      replace h3 := bnot_f h3
      refine V.skip ?_
      refine VE.then_wp ?_
      refine V.seq ?_
      refine V.region ?_
      refine VL.q (.inl rfl) rfl (by decide) (yq_loadS rfl Try.underlying53 sz53_FiLine rfl (by first | exact Sees.root (by assumption) | exact Sees.own (by repeat (first | exact List.mem_cons_self | exact List.mem_append_left _ (by assumption) | apply List.mem_cons_of_mem | apply List.mem_append_right)) | exact Sees.root (hR _ (by omega)) | exact Sees.own (RowsIn.mem (by repeat (first | exact RowsIn.here | exact RowsIn.last | apply RowsIn.there | apply RowsIn.thereS)) _ (by omega)) | exact Sees.own (WRowsIn.mem (by repeat (first | exact WRowsIn.here | exact WRowsIn.last | apply WRowsIn.there | apply WRowsIn.thereS)) _ (by omega))) rfl rfl rfl) ?_
      refine VL.new1 (.inl rfl) rfl (by decide) (yn_buildSlice rfl Try.underlying51 elt53_FiLine rfl (by decide) (.cons rfl .nil) (by simp) rfl rfl) ?_
      intro b30
      refine VL.r (.inl rfl) rfl (by decide) (yr_assign rfl rfl) ?_
      refine VL.nil ?_
      refine VE.then_wp ?_
      refine V.seq ?_
      refine V.region ?_
      refine VL.r (.inl rfl) rfl (by decide) (yr_assign (u := .int .i64 0) rfl rfl) ?_
      refine VL.nil ?_
      refine VE.then_wp ?_
      refine V.seq ?_
      refine V.seq ?_
      refine V.region ?_
      refine VL.r (.inl rfl) rfl (by decide) (yr_move rfl rfl) ?_
      refine VL.r (.inl rfl) rfl (by decide) (yr_move (u := .int .i64 0) rfl rfl) ?_
      refine VL.nil ?_
      refine VE.then_wp ?_
      refine V.block ?_
      refine V.loopc (G := Nat × (Option Addr) × Nat) [(0, _), (2, _), (3, _), (31, _)] (fun ⟨k, a9, c9⟩ => k ≤ rn.toNat ∧ (∀ j, j < k → (fiK ws (p1, p2, p3) st near (j + 1)).2.2 = true) ∧ (fiK ws (p1, p2, p3) st near k).2.2 = true ∧ fin3 (fiK ws (p1, p2, p3) st near k).1 = true) (fun ⟨k, a9, c9⟩ => [⟨a9, vl (fiL ws (p1, p2, p3) st near k), c9 * 3, 53⟩, ⟨some ⟨b6, 0, none⟩, [.float .f32 ((p1, p2, p3)).1, .float .f32 ((p1, p2, p3)).2.1, .float .f32 ((p1, p2, p3)).2.2], 3, 53⟩]) (fun ⟨k, a9, c9⟩ => [(13, .slice a9 (k + 1) c9), (14, .int .i64 ((fiK ws (p1, p2, p3) st near k).2.1 : Int)), (32, .int .i64 (k : Int))]) (fun ⟨k, a9, c9⟩ => rn.toNat - k) (0, some ⟨b30, 0, none⟩, 1) (.cons rfl (.cons rfl (.cons rfl (.cons rfl .nil)))) (.cons rfl (.cons (congrArg (fun i => some (Value.int .i64 i)) (by rw [fiK_zero]; rfl)) (.cons (congrArg (fun i => some (Value.int .i64 i)) (by omega)) .nil))) ?_ ?_ ?_
      · exact (fun w hw => by dsimp only; rw [fiL_zero]; exact hw)
      · exact (by dsimp only; rw [fiK_zero]; exact ⟨by omega, fun j h => by omega, rfl, by assumption⟩)
      rintro ⟨k, a9, c9⟩ ⟨hk, hI, hk2, hk3⟩
      show V _ _ _ [⟨a9, vl (fiL ws (p1, p2, p3) st near k), c9 * 3, 53⟩, ⟨some ⟨b6, 0, none⟩, [.float .f32 ((p1, p2, p3)).1, .float .f32 ((p1, p2, p3)).2.1, .float .f32 ((p1, p2, p3)).2.2], 3, 53⟩] ([(13, .slice a9 (k + 1) c9), (14, .int .i64 ((fiK ws (p1, p2, p3) st near k).2.1 : Int)), (32, .int .i64 (k : Int))] ++ [(0, _), (2, _), (3, _), (31, _)]) _ _
      have hs1 := fiK_sum_le (ws := ws) (p := (p1, p2, p3)) (st := st) (near := near) k
      have hs2 := fnN_le (ws := ws) (p := (fiK ws (p1, p2, p3) st near k).1) (st := st) (near := near)
      have hs3 : fnN ws ((fiK ws (p1, p2, p3) st near k).1.1, (fiK ws (p1, p2, p3) st near k).1.2.1, (fiK ws (p1, p2, p3) st near k).1.2.2) st near = fnN ws (fiK ws (p1, p2, p3) st near k).1 st near := rfl
      have hrn9 := of_decide_eq_true (p := 0 ≤ rn ∧ rn ≤ 63) (by assumption)
      refine V.seq ?_
      refine V.region ?_
      refine VL.r (.inl rfl) rfl (by decide) (yr_icmp rfl (.inr (.inr (.inl rfl))) rfl rfl) ?_
      refine VL.nil ?_
      refine VE.then_wp ?_
      refine V.seq ?_
      refine V.cond rfl (fun h4 => ?_) (fun h4 => ?_)
      · skip
        replace h4 := ic_lss h4
        refine V.skip ?_
        refine VE.then_wp ?_
        refine V.seq ?_
        refine V.block ?_
        refine V.seq ?_
        refine Dr.V.drawR [(0, 5), (2, 5), (3, 5), (4, 5), (5, 5), (6, 5), (7, 5), (8, 5), (9, 5), (1, 1), (10, 0), (11, 5), (12, 5), (13, 5), (14, 5), (15, 2), (16, 3), (17, 5), (18, 5)] [(15, ((fun b => .pointer (some (adr (some ⟨b, 0, none⟩) 0))), (fun b => ⟨some ⟨b, 0, none⟩, [Value.float .f32 0, Value.float .f32 0, Value.float .f32 0], 3, 53⟩)))] [] _ mixed_FiLine (by kernel_rfl) (fun w hw => hw) ?_
        refine Dr.SW.r rfl (.inl rfl) rfl (by decide) (yr_move rfl rfl) ?_
        refine Dr.SW.r rfl (.inl rfl) rfl (by decide) (yr_move rfl rfl) ?_
        refine Dr.SW.r rfl (.inl rfl) rfl (by decide) (yr_move rfl rfl) ?_
        refine Dr.SW.r rfl (.inl rfl) rfl (by decide) (yr_len rfl Try.underlying51 rfl) ?_
        refine Dr.SW.r rfl (.inl rfl) rfl (by decide) (yr_int rfl rfl rfl (.inr (.inl ⟨rfl, wrap_in (by omega)⟩))) ?_
        refine Dr.SW.p rfl (.inl rfl) rfl (by decide) (yq_idxN (k := k) rfl Try.underlying51 sz53_FiLine rfl rfl (by first | exact Sees.root (by assumption) | exact Sees.own (by (try simp only [List.append_assoc, List.cons_append, List.nil_append]); repeat (first | exact List.mem_cons_self | exact List.mem_append_left _ (by assumption) | apply List.mem_cons_of_mem | apply List.mem_append_right)) | exact Sees.root (hR _ (by omega)) | exact Sees.own (RowsIn.mem (by (try simp only [List.append_assoc, List.cons_append, List.nil_append]); repeat (first | exact RowsIn.here | exact RowsIn.last | apply RowsIn.there | apply RowsIn.thereS)) _ (by omega)) | exact Sees.own (WRowsIn.mem (by (try simp only [List.append_assoc, List.cons_append, List.nil_append]); repeat (first | exact WRowsIn.here | exact WRowsIn.last | apply WRowsIn.there | apply WRowsIn.thereS)) _ (by omega))) (by first | rfl | omega | (push_cast; rfl) | (push_cast; omega) | exact tmod_nat _ _) (by rw [vl_length, fiL_length]) (by decide) (by omega)) ?_
        refine Dr.SW.p rfl (.inl rfl) rfl (by decide) (show YQ _ _ _ _ _ (vv (fiK ws (p1, p2, p3) st near k).1) from by rw [← fiL_get (ws := ws) (p := (p1, p2, p3)) (st := st) (near := near) (k := k) (i := k) (by omega)]; exact yq_loadV rfl Try.underlying53 sz53_FiLine rfl (by first | exact Sees.root (by assumption) | exact Sees.own (by (try simp only [List.append_assoc, List.cons_append, List.nil_append]); repeat (first | exact List.mem_cons_self | exact List.mem_append_left _ (by assumption) | apply List.mem_cons_of_mem | apply List.mem_append_right)) | exact Sees.root (hR _ (by omega)) | exact Sees.own (RowsIn.mem (by (try simp only [List.append_assoc, List.cons_append, List.nil_append]); repeat (first | exact RowsIn.here | exact RowsIn.last | apply RowsIn.there | apply RowsIn.thereS)) _ (by omega)) | exact Sees.own (WRowsIn.mem (by (try simp only [List.append_assoc, List.cons_append, List.nil_append]); repeat (first | exact WRowsIn.here | exact WRowsIn.last | apply WRowsIn.there | apply WRowsIn.thereS)) _ (by omega))) (by rw [fiL_length]; omega)) ?_
        refine Dr.SW.r rfl (.inl rfl) rfl (by decide) (yr_move rfl rfl) ?_
        refine Dr.SW.r rfl (.inl rfl) rfl (by decide) (yr_move rfl rfl) ?_
        refine Dr.SW.new1 rfl (.inl rfl) rfl (by decide) (yn_callf rfl known97_FiLine (.cons rfl .nil) (fun w hw => c_fieldOf)) ?_
        intro b36
        refine Dr.SW.q rfl (.inl rfl) rfl (by decide) (yq_callf rfl known106_FiLine (.cons rfl (.cons rfl (.cons rfl (.cons rfl .nil)))) (fun w hw => (c_fine (p1 := (fiK ws (p1, p2, p3) st near k).1.1) (p2 := (fiK ws (p1, p2, p3) st near k).1.2.1) (p3 := (fiK ws (p1, p2, p3) st near k).1.2.2) known162_FiLine (fun w1 hb q => c_fieldOf1 (q := some ⟨b36, 0, none⟩) (p1 := q.1) (p2 := q.2.1) (p3 := q.2.2) (Cl.below (Sees.own (by repeat (first | exact List.mem_cons_self | apply List.mem_cons_of_mem | apply List.mem_append_right)) w hw) hb) ((Sees.root hA w hw).below hb) ((hR.root hw).below hb) hn (by assumption)) hk3))) ?_
        refine Dr.SW.r rfl (.inl rfl) rfl (by decide) (yr_move rfl rfl) ?_
        refine Dr.SW.r rfl (.inl rfl) rfl (by decide) (yr_extract rfl rfl rfl (by nofun)) ?_
        refine Dr.SW.r rfl (.inl rfl) rfl (by decide) (yr_extract rfl rfl rfl (by nofun)) ?_
        refine Dr.SW.r rfl (.inl rfl) rfl (by decide) (yr_extract rfl rfl rfl (by nofun)) ?_
        refine Dr.SW.a rfl rfl rfl (by decide) rfl (fun w0 => (yn_alloc rfl zero53_FiLine rfl)) ?_
        intro b15
        refine Dr.SW.s rfl (.inl rfl) rfl (yc_store rfl sz53_FiLine rfl rfl (Dr.UpdF.app (by repeat (first | exact UpdF.here | apply UpdF.there | apply UpdF.thereS))) (.inr ⟨rfl, rfl⟩) rfl (by first | exact Nat.le_of_ble_eq_true rfl | simp) (by decide) rfl) ?_
        rintro ⟨⟩
        refine Dr.SW.r rfl (.inl rfl) rfl (by decide) (yr_assign rfl rfl) ?_
        refine Dr.SW.r rfl (.inl rfl) rfl (by decide) (yr_assign rfl rfl) ?_
        refine Dr.SW.done ?_
        refine Dr.eqO (by simp only [List.append_nil, List.append_assoc, List.cons_append, List.nil_append] <;> rfl) ?_
        refine VE.then_wp ?_
        refine V.seq ?_
        refine V.seq ?_
        refine V.region ?_
        refine VL.r (.inl rfl) rfl (by decide) (yr_move rfl rfl) ?_
        refine VL.r (.inl rfl) rfl (by decide) (yr_not rfl rfl) ?_
        refine VL.nil ?_
        refine VE.then_wp ?_
        refine V.cond rfl (fun h5 => ?_) (fun h5 => ?_)
        · skip
          replace h5 := bnot_t h5
          refine V.exit ?_
          refine VE.then_exit ?_
          refine VE.block_on rfl ?_
          refine VE.then_exit ?_
          refine VE.then_exit ?_
          refine VE.block_here ?_
          refine VE.then_wp ?_
          refine V.seq ?_
          refine V.region ?_
          refine VL.r (.inl rfl) rfl (by decide) (yr_move rfl rfl) ?_
          refine VL.r (.inl rfl) rfl (by decide) (yr_move rfl rfl) ?_
          refine VL.r (.inl rfl) rfl (by decide) (yr_assign rfl rfl) ?_
          refine VL.r (.inl rfl) rfl (by decide) (yr_assign rfl rfl) ?_
          refine VL.r (.inl rfl) rfl (by decide) (yr_assign (u := .bool true) rfl rfl) ?_
          refine VL.nil ?_
          refine VE.then_wp ?_
          refine V.ret ?_
          refine ret3 rfl rfl rfl rfl (by nofun) (by nofun) (by nofun) (fun w1 hw => ?_)
          first
            | (have hs : (fiOk ws (p1, p2, p3) st near rn) = true := fi_yes (by assumption) (by assumption)
               have hkr : k = rn.toNat := by omega
               subst hkr
               have hm := fiM_all (ws := ws) (p := (p1, p2, p3)) (st := st) (near := near) hI
               have h9 : Hp _ [⟨a9, vl (fiL ws (p1, p2, p3) st near rn.toNat), c9 * 3, 53⟩] w1 := hw.pick (by apply Pick.one; repeat (first | exact Rem.here | apply Rem.there))
               exact ⟨(a9, c9), by rw [fiV_yes hs hm, fiS_yes hs hm, hs, fiL_length], by rw [fiV_yes hs hm]; exact h9.out1⟩)
            | (have hs : (fiOk ws (p1, p2, p3) st near rn) = true := fi_yes (by assumption) (by assumption)
               have hm := fiM_at (ws := ws) (p := (p1, p2, p3)) (st := st) (near := near) (n := rn.toNat) hI (by omega) (by rw [fiK_succ hk2]; assumption)
               have h9 : Hp _ [⟨a9, vl (fiL ws (p1, p2, p3) st near k), c9 * 3, 53⟩] w1 := hw.pick (by apply Pick.one; repeat (first | exact Rem.here | apply Rem.there))
               exact ⟨(a9, c9), by rw [fiV_yes hs hm, fiS_yes hs hm, hs, fiL_length], by rw [fiV_yes hs hm]; exact h9.out1⟩)
            | (have hs : (fiOk ws (p1, p2, p3) st near rn) = false := by first | exact fi_2 (by assumption) | exact fi_1 (by first | exact fa_1 (by assumption) | assumption)
               exact ⟨(none, 0), by rw [fiV_no hs, fiS_no hs, hs]; rfl, hw.below, by rw [fiV_no hs]; simp [vl, Ent.at], List.pairwise_singleton _ _⟩)
        · skip
          replace h5 := bnot_f h5
          refine V.skip ?_
          refine VE.then_wp ?_
          refine V.seq ?_
          refine V.region ?_
          refine VL.r (.inl rfl) rfl (by decide) (yr_move rfl rfl) ?_
          refine VL.q (.inl rfl) rfl (by decide) (yq_loadS rfl Try.underlying53 sz53_FiLine rfl (by first | exact Sees.root (by assumption) | exact Sees.own (by repeat (first | exact List.mem_cons_self | exact List.mem_append_left _ (by assumption) | apply List.mem_cons_of_mem | apply List.mem_append_right)) | exact Sees.root (hR _ (by omega)) | exact Sees.own (RowsIn.mem (by repeat (first | exact RowsIn.here | exact RowsIn.last | apply RowsIn.there | apply RowsIn.thereS)) _ (by omega)) | exact Sees.own (WRowsIn.mem (by repeat (first | exact WRowsIn.here | exact WRowsIn.last | apply WRowsIn.there | apply WRowsIn.thereS)) _ (by omega))) rfl rfl rfl) ?_
          refine VL.new1 (.inl rfl) rfl (by decide) (yn_buildSlice rfl Try.underlying51 elt53_FiLine rfl (by decide) (.cons rfl .nil) (by simp) rfl rfl) ?_
          intro b53
          refine VL.c (.inl rfl) rfl (by decide) (yc_appendz 3 rfl rfl Try.underlying51 elt53_FiLine rfl rfl (by repeat (first | exact UpdF.here | apply UpdF.there | apply UpdF.thereS)) (by first | exact Sees.root (by assumption) | exact Sees.own (by repeat (first | exact List.mem_cons_self | exact List.mem_append_left _ (by assumption) | apply List.mem_cons_of_mem | apply List.mem_append_right)) | exact Sees.root (hR _ (by omega)) | exact Sees.own (RowsIn.mem (by repeat (first | exact RowsIn.here | exact RowsIn.last | apply RowsIn.there | apply RowsIn.thereS)) _ (by omega)) | exact Sees.own (WRowsIn.mem (by repeat (first | exact WRowsIn.here | exact WRowsIn.last | apply WRowsIn.there | apply WRowsIn.thereS)) _ (by omega))) rfl (by rw [vl_length, fiL_length]) rfl (vl_scal _) rfl (by omega) (by omega)) ?_
          rintro ⟨a54, c54⟩
          refine VL.r (.inl rfl) rfl (by decide) (yr_assign rfl rfl) ?_
          refine VL.nil ?_
          refine VE.then_wp ?_
          refine V.region ?_
          refine VL.r (.inl rfl) rfl (by decide) (yr_move rfl rfl) ?_
          refine VL.r (.inl rfl) rfl (by decide) (yr_move rfl rfl) ?_
          refine VL.r (.inl rfl) rfl (by decide) (yr_int rfl rfl rfl (.inl ⟨rfl, wrap_in (by omega)⟩)) ?_
          refine VL.r (.inl rfl) rfl (by decide) (yr_assign rfl rfl) ?_
          refine VL.nil ?_
          refine VE.block_normal ?_
          refine VE.then_wp ?_
          refine V.region ?_
          refine VL.r (.inl rfl) rfl (by decide) (yr_int rfl rfl rfl (.inl ⟨rfl, wrap_in (by omega)⟩)) ?_
          refine VL.r (.inl rfl) rfl (by decide) (yr_move rfl rfl) ?_
          refine VL.nil ?_
          refine VE.round (k + 1, a54, c54) ?_ ?_ ?_ ?_ ?_
          · exact (.cons rfl (.cons (congrArg (fun i => some (Value.int .i64 i)) (by rw [fiK_sum hk2]; omega)) (.cons (congrArg (fun i => some (Value.int .i64 i)) (by omega)) .nil)))
          · exact (.cons rfl (.cons rfl (.cons rfl (.cons rfl .nil))))
          · exact (fun w hw => by
              have h9 : Hp _ [⟨a54, vl (fiL ws (p1, p2, p3) st near k) ++ vl [fnV ws (fiK ws (p1, p2, p3) st near k).1 st near], c54 * 3, 53⟩, ⟨some ⟨b6, 0, none⟩, [.float .f32 ((p1, p2, p3)).1, .float .f32 ((p1, p2, p3)).2.1, .float .f32 ((p1, p2, p3)).2.2], 3, 53⟩] w := hw.pick (by apply Pick.two; all_goals (repeat (first | exact Rem.here | apply Rem.there)))
              dsimp only
              rw [← fiL_snoc, ← fiK_box hk2]
              exact h9)
          · exact ⟨by omega, fun j hj => by rcases Nat.lt_or_ge j k with h | h; exact hI j h; obtain rfl : j = k := (by omega); exact (fiK_ok hk2 hk3 (by assumption)).1, fiK_ok hk2 hk3 (by assumption)⟩
          · (try dsimp only); omega
      · skip
        replace h4 := ic_lss' h4
        refine V.exit ?_
        refine VE.then_exit ?_
        refine VE.then_exit ?_
        refine VE.block_here ?_
        refine VE.then_wp ?_
        refine V.seq ?_
        refine V.region ?_
        refine VL.r (.inl rfl) rfl (by decide) (yr_move rfl rfl) ?_
        refine VL.r (.inl rfl) rfl (by decide) (yr_move rfl rfl) ?_
        refine VL.r (.inl rfl) rfl (by decide) (yr_assign rfl rfl) ?_
        refine VL.r (.inl rfl) rfl (by decide) (yr_assign rfl rfl) ?_
        refine VL.r (.inl rfl) rfl (by decide) (yr_assign (u := .bool true) rfl rfl) ?_
        refine VL.nil ?_
        refine VE.then_wp ?_
        refine V.ret ?_
        refine ret3 rfl rfl rfl rfl (by nofun) (by nofun) (by nofun) (fun w1 hw => ?_)
        first
          | (have hs : (fiOk ws (p1, p2, p3) st near rn) = true := fi_yes (by assumption) (by assumption)
             have hkr : k = rn.toNat := by omega
             subst hkr
             have hm := fiM_all (ws := ws) (p := (p1, p2, p3)) (st := st) (near := near) hI
             have h9 : Hp _ [⟨a9, vl (fiL ws (p1, p2, p3) st near rn.toNat), c9 * 3, 53⟩] w1 := hw.pick (by apply Pick.one; repeat (first | exact Rem.here | apply Rem.there))
             exact ⟨(a9, c9), by rw [fiV_yes hs hm, fiS_yes hs hm, hs, fiL_length], by rw [fiV_yes hs hm]; exact h9.out1⟩)
          | (have hs : (fiOk ws (p1, p2, p3) st near rn) = true := fi_yes (by assumption) (by assumption)
             have hm := fiM_at (ws := ws) (p := (p1, p2, p3)) (st := st) (near := near) (n := rn.toNat) hI (by omega) (by rw [fiK_succ hk2]; assumption)
             have h9 : Hp _ [⟨a9, vl (fiL ws (p1, p2, p3) st near k), c9 * 3, 53⟩] w1 := hw.pick (by apply Pick.one; repeat (first | exact Rem.here | apply Rem.there))
             exact ⟨(a9, c9), by rw [fiV_yes hs hm, fiS_yes hs hm, hs, fiL_length], by rw [fiV_yes hs hm]; exact h9.out1⟩)
          | (have hs : (fiOk ws (p1, p2, p3) st near rn) = false := by first | exact fi_2 (by assumption) | exact fi_1 (by first | exact fa_1 (by assumption) | assumption)
             exact ⟨(none, 0), by rw [fiV_no hs, fiS_no hs, hs]; rfl, hw.below, by rw [fiV_no hs]; simp [vl, Ent.at], List.pairwise_singleton _ _⟩)

theorem law_FineLine {w : World} {a : Option Addr} {c : Nat} {f : Nat → Option Addr × Nat} {ws : List Wr} {p1 p2 p3 : Nat} {st near : Nat} {rn : Int} (hA : Cl w a (whd f ws)) (hR : WRws w f ws) (hX : CansW ws) (hm : ws.length ≤ 9223372036854775807) (hr : ∀ i, i < ws.length → (ws.getD i zw).1.length ≤ 9223372036854775807) (hp : Can3 (p1, p2, p3)) : Pure Try.prog 9 [.slice a ws.length c, vv (p1, p2, p3), .float .f32 st, .float .f32 near, .int .i64 rn] w (.bool true) := by
  refine Pure.enter Try.func9 rfl Try.ntmps9 (Nat.le_of_ble_eq_true rfl) ?_
  have hbu : wbulk ws = ws.length + wsum ws ws.length := rfl
  have hS := cans_fiV (ws := ws) (p := (p1, p2, p3)) (st := st) (near := near) (rn := rn) hp
  have hSl := fiV_length (ws := ws) (p := (p1, p2, p3)) (st := st) (near := near) (rn := rn)
  refine V.seq ?_
  refine V.region ?_
  refine VL.new1 (.inl rfl) rfl (by decide) (yn_box rfl rfl (.inr ⟨rfl, rfl⟩)) ?_
  intro b6
  refine VL.r (.inl rfl) rfl (by decide) (yr_assign (u := .bool false) rfl rfl) ?_
  refine VL.nil ?_
  refine VE.then_wp ?_
  refine V.seq ?_
  refine V.region ?_
  refine VL.r (.inl rfl) rfl (by decide) (yr_assign (u := .int .i64 1048576) rfl rfl) ?_
  refine VL.nil ?_
  refine VE.then_wp ?_
  refine V.seq ?_
  refine V.region ?_
  refine VL.r (.inl rfl) rfl (by decide) (yr_move rfl rfl) ?_
  refine VL.r (.inl rfl) rfl (by decide) (yr_move rfl rfl) ?_
  refine VL.q (.inl rfl) rfl (by decide) (yq_callf rfl known23_FiLine (.cons rfl (.cons rfl .nil)) (fun w hw => (c_szWs (by first | exact Sees.root (by assumption) w hw | exact Sees.own (by repeat (first | exact List.mem_cons_self | exact List.mem_append_left _ (by assumption) | apply List.mem_cons_of_mem | apply List.mem_append_right)) w hw) (by omega) (by omega) (by omega) (by assumption)))) ?_
  refine VL.r (.inl rfl) rfl (by decide) (yr_assign rfl rfl) ?_
  refine VL.nil ?_
  refine VE.then_wp ?_
  refine V.seq ?_
  refine V.seq ?_
  refine V.region ?_
  refine VL.r (.inl rfl) rfl (by decide) (yr_move rfl rfl) ?_
  refine VL.r (.inl rfl) rfl (by decide) (yr_icmp rfl (.inr (.inr (.inl rfl))) rfl rfl) ?_
  refine VL.nil ?_
  refine VE.then_wp ?_
  refine V.cond rfl (fun h1 => ?_) (fun h1 => ?_)
  · skip
    replace h1 := ic_lss h1
    refine V.seq ?_
    refine V.region ?_
    refine VL.r (.inl rfl) rfl (by decide) (yr_assign (u := .bool true) rfl rfl) ?_
    refine VL.nil ?_
    refine VE.then_wp ?_
    refine V.ret ?_
    refine VE.then_ret ?_
    refine ret1 rfl rfl (fun w1 hw => ?_)
    exact ⟨rfl, hw.below⟩
  · skip
    replace h1 := ic_lss' h1
    have hsz := szOf_fits h1
    refine V.skip ?_
    refine VE.then_wp ?_
    refine V.seq ?_
    refine V.draw [(0, 0), (2, 0), (4, 0), (5, 0), (6, 0), (1, 1), (3, 0), (7, 1), (8, 0), (9, 0), (10, 0), (11, 0), (12, 0), (13, 0), (14, 0)] mixed_FiLine (by kernel_rfl) (by intro j o hj; simp at hj) ?_
    refine SW.r rfl (.inl rfl) rfl (by decide) (yr_move rfl rfl) ?_
    refine SW.q rfl (.inl rfl) rfl (by decide) (yq_loadS rfl Try.underlying45 sz45_FiLine rfl (by first | exact Sees.root (by assumption) | exact Sees.own (by repeat (first | exact List.mem_cons_self | exact List.mem_append_left _ (by assumption) | apply List.mem_cons_of_mem | apply List.mem_append_right)) | exact Sees.root (hR _ (by omega)) | exact Sees.own (RowsIn.mem (by repeat (first | exact RowsIn.here | exact RowsIn.last | apply RowsIn.there | apply RowsIn.thereS)) _ (by omega)) | exact Sees.own (WRowsIn.mem (by repeat (first | exact WRowsIn.here | exact WRowsIn.last | apply WRowsIn.there | apply WRowsIn.thereS)) _ (by omega))) rfl rfl rfl) ?_
    refine SW.r rfl (.inl rfl) rfl (by decide) (yr_move rfl rfl) ?_
    refine SW.r rfl (.inl rfl) rfl (by decide) (yr_move rfl rfl) ?_
    refine SW.r rfl (.inl rfl) rfl (by decide) (yr_move rfl rfl) ?_
    refine SW.new rfl (.inl rfl) rfl (by decide) (yn_callf rfl known26_FiLine (.cons rfl .nil) (fun w hw => (c_toWs (by first | exact Sees.root (by assumption) w hw | exact Sees.own (by repeat (first | exact List.mem_cons_self | exact List.mem_append_left _ (by assumption) | apply List.mem_cons_of_mem | apply List.mem_append_right)) w hw) (by first | exact WRws.root (by assumption) hw | exact WRws.own (by repeat (first | exact WRowsIn.here | exact WRowsIn.last | apply WRowsIn.there | apply WRowsIn.thereS)) hw) (by omega)))) ?_
    rintro ⟨b32, f32⟩
    refine SW.q rfl (.inl rfl) rfl (by decide) (yq_callf rfl known28_FiLine (.cons rfl .nil) (fun w hw => c_toVec)) ?_
    refine SW.new1 rfl (.inl rfl) rfl (by decide) (yn_callf rfl known43_FiLine (.cons rfl (.cons rfl (.cons rfl (.cons rfl (.cons rfl .nil))))) (fun w hw => (c_specFiL (by first | exact Sees.root (by assumption) w hw | exact Sees.own (by repeat (first | exact List.mem_cons_self | exact List.mem_append_left _ (by assumption) | apply List.mem_cons_of_mem | apply List.mem_append_right)) w hw) (by first | exact WRws.root (by assumption) hw | exact WRws.own (by repeat (first | exact WRowsIn.here | exact WRowsIn.last | apply WRowsIn.there | apply WRowsIn.thereS)) hw) (by omega)))) ?_
    rintro ⟨a38, c38⟩
    refine SW.r rfl (.inl rfl) rfl (by decide) (yr_move rfl rfl) ?_
    refine SW.r rfl (.inl rfl) rfl (by decide) (yr_extract rfl rfl rfl (by nofun)) ?_
    refine SW.r rfl (.inl rfl) rfl (by decide) (yr_extract rfl rfl rfl (by nofun)) ?_
    refine SW.r rfl (.inl rfl) rfl (by decide) (yr_extract rfl rfl rfl (by nofun)) ?_
    refine SW.r rfl (.inl rfl) rfl (by decide) (yr_assign rfl rfl) ?_
    refine SW.r rfl (.inl rfl) rfl (by decide) (yr_assign rfl rfl) ?_
    refine SW.r rfl (.inl rfl) rfl (by decide) (yr_assign rfl rfl) ?_
    refine SW.done ?_
    refine VE.then_wp ?_
    refine V.seq ?_
    refine V.region ?_
    refine VL.r (.inl rfl) rfl (by decide) (yr_move rfl rfl) ?_
    refine VL.new (.inl rfl) rfl (by decide) (yn_callf rfl known26_FiLine (.cons rfl .nil) (fun w hw => (c_toWs (by first | exact Sees.root (by assumption) w hw | exact Sees.own (by repeat (first | exact List.mem_cons_self | exact List.mem_append_left _ (by assumption) | apply List.mem_cons_of_mem | apply List.mem_append_right)) w hw) (by first | exact WRws.root (by assumption) hw | exact WRws.own (by repeat (first | exact WRowsIn.here | exact WRowsIn.last | apply WRowsIn.there | apply WRowsIn.thereS)) hw) (by omega)))) ?_
    rintro ⟨b43, f43⟩
    refine VL.r (.inl rfl) rfl (by decide) (yr_assign rfl rfl) ?_
    refine VL.nil ?_
    refine VE.then_wp ?_
    refine V.seq ?_
    refine V.region ?_
    refine VL.r (.inl rfl) rfl (by decide) (yr_move rfl rfl) ?_
    refine VL.q (.inl rfl) rfl (by decide) (yq_loadS rfl Try.underlying45 sz45_FiLine rfl (by first | exact Sees.root (by assumption) | exact Sees.own (by repeat (first | exact List.mem_cons_self | exact List.mem_append_left _ (by assumption) | apply List.mem_cons_of_mem | apply List.mem_append_right)) | exact Sees.root (hR _ (by omega)) | exact Sees.own (RowsIn.mem (by repeat (first | exact RowsIn.here | exact RowsIn.last | apply RowsIn.there | apply RowsIn.thereS)) _ (by omega)) | exact Sees.own (WRowsIn.mem (by repeat (first | exact WRowsIn.here | exact WRowsIn.last | apply WRowsIn.there | apply WRowsIn.thereS)) _ (by omega))) rfl rfl rfl) ?_
    refine VL.q (.inl rfl) rfl (by decide) (yq_callf rfl known28_FiLine (.cons rfl .nil) (fun w hw => c_toVec)) ?_
    refine VL.r (.inl rfl) rfl (by decide) (yr_move rfl rfl) ?_
    refine VL.r (.inl rfl) rfl (by decide) (yr_move rfl rfl) ?_
    refine VL.r (.inl rfl) rfl (by decide) (yr_move rfl rfl) ?_
    refine VL.new1 (.inl rfl) rfl (by decide) (yn_callf rfl known44_FiLine (.cons rfl (.cons rfl (.cons rfl (.cons rfl (.cons rfl .nil))))) (fun w hw => (c_implFiL (by first | exact Sees.root (by assumption) w hw | exact Sees.own (by repeat (first | exact List.mem_cons_self | exact List.mem_append_left _ (by assumption) | apply List.mem_cons_of_mem | apply List.mem_append_right)) w hw) (by first | exact WRws.root (by assumption) hw | exact WRws.own (by repeat (first | exact WRowsIn.here | exact WRowsIn.last | apply WRowsIn.there | apply WRowsIn.thereS)) hw) (by omega)))) ?_
    rintro ⟨a51, c51⟩
    refine VL.r (.inl rfl) rfl (by decide) (yr_move rfl rfl) ?_
    refine VL.r (.inl rfl) rfl (by decide) (yr_extract rfl rfl rfl (by nofun)) ?_
    refine VL.r (.inl rfl) rfl (by decide) (yr_extract rfl rfl rfl (by nofun)) ?_
    refine VL.r (.inl rfl) rfl (by decide) (yr_extract rfl rfl rfl (by nofun)) ?_
    refine VL.r (.inl rfl) rfl (by decide) (yr_assign rfl rfl) ?_
    refine VL.r (.inl rfl) rfl (by decide) (yr_assign rfl rfl) ?_
    refine VL.r (.inl rfl) rfl (by decide) (yr_assign rfl rfl) ?_
    refine VL.nil ?_
    refine VE.then_wp ?_
    refine V.seq ?_
    refine V.seq ?_
    refine V.region ?_
    refine VL.r (.inl rfl) rfl (by decide) (yr_move rfl rfl) ?_
    refine VL.r (.inl rfl) rfl (by decide) (yr_move rfl rfl) ?_
    refine VL.q (.inl rfl) rfl (by decide) (yq_callf rfl known32_FiLine (.cons rfl (.cons rfl .nil)) (fun w hw => (c_eqVs (by first | exact Sees.root (by assumption) w hw | exact Sees.own (by repeat (first | exact List.mem_cons_self | exact List.mem_append_left _ (by assumption) | apply List.mem_cons_of_mem | apply List.mem_append_right)) w hw) (by first | exact Sees.root (by assumption) w hw | exact Sees.own (by repeat (first | exact List.mem_cons_self | exact List.mem_append_left _ (by assumption) | apply List.mem_cons_of_mem | apply List.mem_append_right)) w hw) (by assumption) (by assumption) (by omega)))) ?_
    refine VL.r (.inl rfl) rfl (by decide) (yr_not rfl rfl) ?_
    refine VL.r (.inl rfl) rfl (by decide) (yr_move rfl rfl) ?_
    refine VX.split 59 _ rfl (fun h2 => ?_) (fun h2 => ?_)
    · skip
      replace h2 := bnot_t h2
      first | (exfalso; omega) | (simp [bcmp] at h2; done)
    · skip
      replace h2 := bnot_f h2
      refine VL.r (.inr ⟨_, _, _, rfl, rfl, rfl⟩) rfl (by decide) (yr_move rfl rfl) ?_
      refine VL.r (.inr ⟨_, _, _, rfl, rfl, rfl⟩) rfl (by decide) (yr_move rfl rfl) ?_
      refine VL.r (.inr ⟨_, _, _, rfl, rfl, rfl⟩) rfl (by decide) (yr_icmp rfl (.inr (.inl rfl)) rfl rfl) ?_
      refine VL.r (.inl rfl) rfl (by decide) (yr_pick_f rfl rfl rfl) ?_
      refine VL.r (.inl rfl) rfl (by decide) (yr_move rfl rfl) ?_
      refine VX.split 64 _ rfl (fun h3 => ?_) (fun h3 => ?_)
      · skip
        replace h3 := ic_neq h3
        first | (exfalso; omega) | (simp [bcmp] at h3; done)
      · skip
        replace h3 := ic_neq' h3
        refine VL.r (.inr ⟨_, _, _, rfl, rfl, rfl⟩) rfl (by decide) (yr_move rfl rfl) ?_
        refine VL.r (.inr ⟨_, _, _, rfl, rfl, rfl⟩) rfl (by decide) (yr_move rfl rfl) ?_
        refine VL.r (.inr ⟨_, _, _, rfl, rfl, rfl⟩) rfl (by decide) (yr_bcmp rfl Try.underlying4 rfl rfl (.inr rfl)) ?_
        refine VL.r (.inl rfl) rfl (by decide) (yr_pick_f rfl rfl rfl) ?_
        refine VL.nil ?_
        refine VE.then_wp ?_
        refine V.cond rfl (fun h4 => ?_) (fun h4 => ?_)
        · skip
          first | (exfalso; omega) | (simp [bcmp] at h4; done)
        · skip
          refine V.skip ?_
          refine VE.then_wp ?_
          refine V.seq ?_
          refine V.seq ?_
          refine V.region ?_
          refine VL.r (.inl rfl) rfl (by decide) (yr_move rfl rfl) ?_
          refine VL.r (.inl rfl) rfl (by decide) (yr_move rfl rfl) ?_
          refine VL.new (.inl rfl) rfl (by decide) (yn_callf rfl known26_FiLine (.cons rfl .nil) (fun w hw => (c_toWs (by first | exact Sees.root (by assumption) w hw | exact Sees.own (by repeat (first | exact List.mem_cons_self | exact List.mem_append_left _ (by assumption) | apply List.mem_cons_of_mem | apply List.mem_append_right)) w hw) (by first | exact WRws.root (by assumption) hw | exact WRws.own (by repeat (first | exact WRowsIn.here | exact WRowsIn.last | apply WRowsIn.there | apply WRowsIn.thereS)) hw) (by omega)))) ?_
          rintro ⟨b71, f71⟩
          refine VL.q (.inl rfl) rfl (by decide) (yq_callf rfl known31_FiLine (.cons rfl (.cons rfl .nil)) (fun w hw => (c_eqWs (by first | exact Sees.root (by assumption) w hw | exact Sees.own (by repeat (first | exact List.mem_cons_self | exact List.mem_append_left _ (by assumption) | apply List.mem_cons_of_mem | apply List.mem_append_right)) w hw) (by first | exact WRws.root (by assumption) hw | exact WRws.own (by repeat (first | exact WRowsIn.here | exact WRowsIn.last | apply WRowsIn.there | apply WRowsIn.thereS)) hw) (by first | exact Sees.root (by assumption) w hw | exact Sees.own (by repeat (first | exact List.mem_cons_self | exact List.mem_append_left _ (by assumption) | apply List.mem_cons_of_mem | apply List.mem_append_right)) w hw) (by first | exact WRws.root (by assumption) hw | exact WRws.own (by repeat (first | exact WRowsIn.here | exact WRowsIn.last | apply WRowsIn.there | apply WRowsIn.thereS)) hw) (by assumption) (by assumption) (by omega)))) ?_
          refine VL.r (.inl rfl) rfl (by decide) (yr_not rfl rfl) ?_
          refine VL.nil ?_
          refine VE.then_wp ?_
          refine V.cond rfl (fun h5 => ?_) (fun h5 => ?_)
          · skip
            replace h5 := bnot_t h5
            first | (exfalso; omega) | (simp [bcmp] at h5; done)
          · skip
            replace h5 := bnot_f h5
            refine V.skip ?_
            refine VE.then_wp ?_
            refine V.seq ?_
            refine V.region ?_
            refine VL.r (.inl rfl) rfl (by decide) (yr_assign (u := .int .i64 1) rfl rfl) ?_
            refine VL.nil ?_
            refine VE.then_wp ?_
            refine V.seq ?_
            refine V.region ?_
            refine VL.r (.inl rfl) rfl (by decide) (yr_move rfl rfl) ?_
            refine VL.r (.inl rfl) rfl (by decide) (yr_move rfl rfl) ?_
            refine VL.c (.inl rfl) rfl (by decide) (yc_callf rfl known38_FiLine (.cons rfl (.cons rfl .nil)) (by apply Pick.two; all_goals (repeat (first | exact Rem.here | exact Rem.all | exact Rem.hereS | apply Rem.there | apply Rem.thereS))) (c_markWs (by omega) (by omega) (by omega))) ?_
            rintro ⟨⟩
            refine VL.r (.inl rfl) rfl (by decide) (yr_assign rfl rfl) ?_
            refine VL.nil ?_
            refine VE.then_wp ?_
            refine V.seq ?_
            refine V.seq ?_
            refine V.region ?_
            refine VL.r (.inl rfl) rfl (by decide) (yr_move rfl rfl) ?_
            refine VL.r (.inl rfl) rfl (by decide) (yr_icmp rfl (.inr (.inr (.inl rfl))) rfl rfl) ?_
            refine VL.r (.inl rfl) rfl (by decide) (yr_move rfl rfl) ?_
            refine VX.split 79 _ rfl (fun h6 => ?_) (fun h6 => ?_)
            · skip
              replace h6 := ic_lss h6
              first | (exfalso; omega) | (simp [bcmp] at h6; done)
            · skip
              replace h6 := ic_lss' h6
              refine VL.r (.inr ⟨_, _, _, rfl, rfl, rfl⟩) rfl (by decide) (yr_move rfl rfl) ?_
              refine VL.r (.inr ⟨_, _, _, rfl, rfl, rfl⟩) rfl (by decide) (yr_move rfl rfl) ?_
              refine VL.q (.inr ⟨_, _, _, rfl, rfl, rfl⟩) rfl (by decide) (yq_callf rfl known32_FiLine (.cons rfl (.cons rfl .nil)) (fun w hw => (c_eqVs (by first | exact Sees.root (by assumption) w hw | exact Sees.own (by repeat (first | exact List.mem_cons_self | exact List.mem_append_left _ (by assumption) | apply List.mem_cons_of_mem | apply List.mem_append_right)) w hw) (by first | exact Sees.root (by assumption) w hw | exact Sees.own (by repeat (first | exact List.mem_cons_self | exact List.mem_append_left _ (by assumption) | apply List.mem_cons_of_mem | apply List.mem_append_right)) w hw) (by assumption) (by assumption) (by omega)))) ?_
              refine VL.r (.inr ⟨_, _, _, rfl, rfl, rfl⟩) rfl (by decide) (yr_not rfl rfl) ?_
              refine VL.r (.inl rfl) rfl (by decide) (yr_pick_f rfl rfl rfl) ?_
              refine VL.r (.inl rfl) rfl (by decide) (yr_move rfl rfl) ?_
              refine VX.split 85 _ rfl (fun h7 => ?_) (fun h7 => ?_)
              · skip
                replace h7 := bnot_t h7
                first | (exfalso; omega) | (simp [bcmp] at h7; done)
              · skip
                replace h7 := bnot_f h7
                refine VL.r (.inr ⟨_, _, _, rfl, rfl, rfl⟩) rfl (by decide) (yr_move rfl rfl) ?_
                refine VL.r (.inr ⟨_, _, _, rfl, rfl, rfl⟩) rfl (by decide) (yr_move rfl rfl) ?_
                refine VL.r (.inr ⟨_, _, _, rfl, rfl, rfl⟩) rfl (by decide) (yr_icmp rfl (.inr (.inl rfl)) rfl rfl) ?_
                refine VL.r (.inl rfl) rfl (by decide) (yr_pick_f rfl rfl rfl) ?_
                refine VL.r (.inl rfl) rfl (by decide) (yr_move rfl rfl) ?_
                refine VX.split 90 _ rfl (fun h8 => ?_) (fun h8 => ?_)
                · skip
                  replace h8 := ic_neq h8
                  first | (exfalso; omega) | (simp [bcmp] at h8; done)
                · skip
                  replace h8 := ic_neq' h8
                  refine VL.r (.inr ⟨_, _, _, rfl, rfl, rfl⟩) rfl (by decide) (yr_move rfl rfl) ?_
                  refine VL.r (.inr ⟨_, _, _, rfl, rfl, rfl⟩) rfl (by decide) (yr_move rfl rfl) ?_
                  refine VL.r (.inr ⟨_, _, _, rfl, rfl, rfl⟩) rfl (by decide) (yr_bcmp rfl Try.underlying4 rfl rfl (.inr rfl)) ?_
                  refine VL.r (.inl rfl) rfl (by decide) (yr_pick_f rfl rfl rfl) ?_
                  refine VL.nil ?_
                  refine VE.then_wp ?_
                  refine V.cond rfl (fun h9 => ?_) (fun h9 => ?_)
                  · skip
                    first | (exfalso; omega) | (simp [bcmp] at h9; done)
                  · skip
                    refine V.skip ?_
                    refine VE.then_wp ?_
                    refine V.seq ?_
                    refine V.region ?_
                    refine VL.r (.inl rfl) rfl (by decide) (yr_assign (u := .int .i64 1) rfl rfl) ?_
                    refine VL.nil ?_
                    refine VE.then_wp ?_
                    refine V.seq ?_
                    refine V.region ?_
                    refine VL.r (.inl rfl) rfl (by decide) (yr_move rfl rfl) ?_
                    refine VL.r (.inl rfl) rfl (by decide) (yr_move rfl rfl) ?_
                    refine VL.c (.inl rfl) rfl (by decide) (yc_callf rfl known39_FiLine (.cons rfl (.cons rfl .nil)) (by apply Pick.one; repeat (first | exact Rem.here | apply Rem.there | apply Rem.thereS)) (c_markV (by omega) (by omega) (by omega))) ?_
                    rintro ⟨⟩
                    refine VL.r (.inl rfl) rfl (by decide) (yr_assign rfl rfl) ?_
                    refine VL.nil ?_
                    refine VE.then_wp ?_
                    refine V.seq ?_
                    refine V.region ?_
                    refine VL.r (.inl rfl) rfl (by decide) (yr_assign (u := .int .i64 1) rfl rfl) ?_
                    refine VL.nil ?_
                    refine VE.then_wp ?_
                    refine V.seq ?_
                    refine V.region ?_
                    refine VL.r (.inl rfl) rfl (by decide) (yr_move rfl rfl) ?_
                    refine VL.r (.inl rfl) rfl (by decide) (yr_move rfl rfl) ?_
                    refine VL.q (.inl rfl) rfl (by decide) (yq_callf rfl known40_FiLine (.cons rfl (.cons rfl .nil)) (fun w hw => (c_heldV (by first | exact Sees.root (by assumption) w hw | exact Sees.own (by repeat (first | exact List.mem_cons_self | exact List.mem_append_left _ (by assumption) | apply List.mem_cons_of_mem | apply List.mem_append_right)) w hw) (by omega) (by omega) (by omega)))) ?_
                    refine VL.r (.inl rfl) rfl (by decide) (yr_assign rfl rfl) ?_
                    refine VL.nil ?_
                    refine VE.then_wp ?_
                    refine V.seq ?_
                    refine V.seq ?_
                    refine V.region ?_
                    refine VL.r (.inl rfl) rfl (by decide) (yr_move rfl rfl) ?_
                    refine VL.r (.inl rfl) rfl (by decide) (yr_icmp rfl (.inr (.inr (.inl rfl))) rfl rfl) ?_
                    refine VL.nil ?_
                    refine VE.then_wp ?_
                    refine V.cond rfl (fun h10 => ?_) (fun h10 => ?_)
                    · skip
                      replace h10 := ic_lss h10
                      first | (exfalso; omega) | (simp [bcmp] at h10; done)
                    · skip
                      replace h10 := ic_lss' h10
                      refine V.skip ?_
                      refine VE.then_wp ?_
                      refine V.seq ?_
                      refine V.seq ?_
                      refine V.region ?_
                      refine VL.r (.inl rfl) rfl (by decide) (yr_move rfl rfl) ?_
                      refine VL.r (.inl rfl) rfl (by decide) (yr_move rfl rfl) ?_
                      refine VL.r (.inl rfl) rfl (by decide) (yr_icmp rfl (.inr (.inl rfl)) rfl rfl) ?_
                      refine VL.nil ?_
                      refine VE.then_wp ?_
                      refine V.cond rfl (fun h11 => ?_) (fun h11 => ?_)
                      · skip
                        replace h11 := ic_neq h11
                        first | (exfalso; omega) | (simp [bcmp] at h11; done)
                      · skip
                        replace h11 := ic_neq' h11
                        refine V.skip ?_
                        refine VE.then_wp ?_
                        refine V.seq ?_
                        refine V.draw [(0, 0), (2, 0), (4, 0), (5, 0), (6, 0), (1, 1), (3, 0), (7, 1), (8, 0), (9, 0), (10, 0), (11, 0), (12, 0), (13, 0), (14, 0)] mixed_FiLine (by kernel_rfl) (by intro j o hj; simp at hj) ?_
                        refine SW.r rfl (.inl rfl) rfl (by decide) (yr_move rfl rfl) ?_
                        refine SW.q rfl (.inl rfl) rfl (by decide) (yq_loadS rfl Try.underlying45 sz45_FiLine rfl (by first | exact Sees.root (by assumption) | exact Sees.own (by repeat (first | exact List.mem_cons_self | exact List.mem_append_left _ (by assumption) | apply List.mem_cons_of_mem | apply List.mem_append_right)) | exact Sees.root (hR _ (by omega)) | exact Sees.own (RowsIn.mem (by repeat (first | exact RowsIn.here | exact RowsIn.last | apply RowsIn.there | apply RowsIn.thereS)) _ (by omega)) | exact Sees.own (WRowsIn.mem (by repeat (first | exact WRowsIn.here | exact WRowsIn.last | apply WRowsIn.there | apply WRowsIn.thereS)) _ (by omega))) rfl rfl rfl) ?_
                        refine SW.r rfl (.inl rfl) rfl (by decide) (yr_move rfl rfl) ?_
                        refine SW.r rfl (.inl rfl) rfl (by decide) (yr_move rfl rfl) ?_
                        refine SW.r rfl (.inl rfl) rfl (by decide) (yr_move rfl rfl) ?_
                        refine SW.new rfl (.inl rfl) rfl (by decide) (yn_callf rfl known26_FiLine (.cons rfl .nil) (fun w hw => (c_toWs (by first | exact Sees.root (by assumption) w hw | exact Sees.own (by repeat (first | exact List.mem_cons_self | exact List.mem_append_left _ (by assumption) | apply List.mem_cons_of_mem | apply List.mem_append_right)) w hw) (by first | exact WRws.root (by assumption) hw | exact WRws.own (by repeat (first | exact WRowsIn.here | exact WRowsIn.last | apply WRowsIn.there | apply WRowsIn.thereS)) hw) (by omega)))) ?_
                        rintro ⟨b108, f108⟩
                        refine SW.q rfl (.inl rfl) rfl (by decide) (yq_callf rfl known28_FiLine (.cons rfl .nil) (fun w hw => c_toVec)) ?_
                        refine SW.new1 rfl (.inl rfl) rfl (by decide) (yn_callf rfl known44_FiLine (.cons rfl (.cons rfl (.cons rfl (.cons rfl (.cons rfl .nil))))) (fun w hw => (c_implFiL (by first | exact Sees.root (by assumption) w hw | exact Sees.own (by repeat (first | exact List.mem_cons_self | exact List.mem_append_left _ (by assumption) | apply List.mem_cons_of_mem | apply List.mem_append_right)) w hw) (by first | exact WRws.root (by assumption) hw | exact WRws.own (by repeat (first | exact WRowsIn.here | exact WRowsIn.last | apply WRowsIn.there | apply WRowsIn.thereS)) hw) (by omega)))) ?_
                        rintro ⟨a114, c114⟩
                        refine SW.r rfl (.inl rfl) rfl (by decide) (yr_move rfl rfl) ?_
                        refine SW.r rfl (.inl rfl) rfl (by decide) (yr_extract rfl rfl rfl (by nofun)) ?_
                        refine SW.r rfl (.inl rfl) rfl (by decide) (yr_extract rfl rfl rfl (by nofun)) ?_
                        refine SW.r rfl (.inl rfl) rfl (by decide) (yr_extract rfl rfl rfl (by nofun)) ?_
                        refine SW.r rfl (.inl rfl) rfl (by decide) (yr_assign rfl rfl) ?_
                        refine SW.r rfl (.inl rfl) rfl (by decide) (yr_assign rfl rfl) ?_
                        refine SW.r rfl (.inl rfl) rfl (by decide) (yr_assign rfl rfl) ?_
                        refine SW.done ?_
                        refine VE.then_wp ?_
                        refine V.seq ?_
                        refine V.seq ?_
                        refine V.region ?_
                        refine VL.r (.inl rfl) rfl (by decide) (yr_move rfl rfl) ?_
                        refine VL.r (.inl rfl) rfl (by decide) (yr_move rfl rfl) ?_
                        refine VL.q (.inl rfl) rfl (by decide) (yq_callf rfl known32_FiLine (.cons rfl (.cons rfl .nil)) (fun w hw => (c_eqVs (by first | exact Sees.root (by assumption) w hw | exact Sees.own (by repeat (first | exact List.mem_cons_self | exact List.mem_append_left _ (by assumption) | apply List.mem_cons_of_mem | apply List.mem_append_right)) w hw) (by first | exact Sees.root (by assumption) w hw | exact Sees.own (by repeat (first | exact List.mem_cons_self | exact List.mem_append_left _ (by assumption) | apply List.mem_cons_of_mem | apply List.mem_append_right)) w hw) (by assumption) (by assumption) (by omega)))) ?_
                        refine VL.r (.inl rfl) rfl (by decide) (yr_not rfl rfl) ?_
                        refine VL.r (.inl rfl) rfl (by decide) (yr_move rfl rfl) ?_
                        refine VX.split 122 _ rfl (fun h12 => ?_) (fun h12 => ?_)
                        · skip
                          replace h12 := bnot_t h12
                          first | (exfalso; omega) | (simp [bcmp] at h12; done)
                        · skip
                          replace h12 := bnot_f h12
                          refine VL.r (.inr ⟨_, _, _, rfl, rfl, rfl⟩) rfl (by decide) (yr_move rfl rfl) ?_
                          refine VL.r (.inr ⟨_, _, _, rfl, rfl, rfl⟩) rfl (by decide) (yr_move rfl rfl) ?_
                          refine VL.r (.inr ⟨_, _, _, rfl, rfl, rfl⟩) rfl (by decide) (yr_icmp rfl (.inr (.inl rfl)) rfl rfl) ?_
                          refine VL.r (.inl rfl) rfl (by decide) (yr_pick_f rfl rfl rfl) ?_
                          refine VL.r (.inl rfl) rfl (by decide) (yr_move rfl rfl) ?_
                          refine VX.split 127 _ rfl (fun h13 => ?_) (fun h13 => ?_)
                          · skip
                            replace h13 := ic_neq h13
                            first | (exfalso; omega) | (simp [bcmp] at h13; done)
                          · skip
                            replace h13 := ic_neq' h13
                            refine VL.r (.inr ⟨_, _, _, rfl, rfl, rfl⟩) rfl (by decide) (yr_move rfl rfl) ?_
                            refine VL.r (.inr ⟨_, _, _, rfl, rfl, rfl⟩) rfl (by decide) (yr_move rfl rfl) ?_
                            refine VL.r (.inr ⟨_, _, _, rfl, rfl, rfl⟩) rfl (by decide) (yr_bcmp rfl Try.underlying4 rfl rfl (.inr rfl)) ?_
                            refine VL.r (.inl rfl) rfl (by decide) (yr_pick_f rfl rfl rfl) ?_
                            refine VL.nil ?_
                            refine VE.then_wp ?_
                            refine V.cond rfl (fun h14 => ?_) (fun h14 => ?_)
                            · skip
                              first | (exfalso; omega) | (simp [bcmp] at h14; done)
                            · skip
                              refine V.skip ?_
                              refine VE.then_wp ?_
                              refine V.seq ?_
                              refine V.region ?_
                              refine VL.r (.inl rfl) rfl (by decide) (yr_assign (u := .int .i64 1) rfl rfl) ?_
                              refine VL.nil ?_
                              refine VE.then_wp ?_
                              refine V.seq ?_
                              refine V.region ?_
                              refine VL.r (.inl rfl) rfl (by decide) (yr_move rfl rfl) ?_
                              refine VL.r (.inl rfl) rfl (by decide) (yr_move rfl rfl) ?_
                              refine VL.q (.inl rfl) rfl (by decide) (yq_callf rfl known40_FiLine (.cons rfl (.cons rfl .nil)) (fun w hw => (c_heldV (by first | exact Sees.root (by assumption) w hw | exact Sees.own (by repeat (first | exact List.mem_cons_self | exact List.mem_append_left _ (by assumption) | apply List.mem_cons_of_mem | apply List.mem_append_right)) w hw) (by omega) (by omega) (by omega)))) ?_
                              refine VL.r (.inl rfl) rfl (by decide) (yr_assign rfl rfl) ?_
                              refine VL.nil ?_
                              refine VE.then_wp ?_
                              refine V.seq ?_
                              refine V.seq ?_
                              refine V.region ?_
                              refine VL.r (.inl rfl) rfl (by decide) (yr_move rfl rfl) ?_
                              refine VL.r (.inl rfl) rfl (by decide) (yr_icmp rfl (.inr (.inr (.inl rfl))) rfl rfl) ?_
                              refine VL.nil ?_
                              refine VE.then_wp ?_
                              refine V.cond rfl (fun h15 => ?_) (fun h15 => ?_)
                              · skip
                                replace h15 := ic_lss h15
                                first | (exfalso; omega) | (simp [bcmp] at h15; done)
                              · skip
                                replace h15 := ic_lss' h15
                                refine V.skip ?_
                                refine VE.then_wp ?_
                                refine V.seq ?_
                                refine V.seq ?_
                                refine V.region ?_
                                refine VL.r (.inl rfl) rfl (by decide) (yr_move rfl rfl) ?_
                                refine VL.r (.inl rfl) rfl (by decide) (yr_move rfl rfl) ?_
                                refine VL.r (.inl rfl) rfl (by decide) (yr_icmp rfl (.inr (.inl rfl)) rfl rfl) ?_
                                refine VL.nil ?_
                                refine VE.then_wp ?_
                                refine V.cond rfl (fun h16 => ?_) (fun h16 => ?_)
                                · skip
                                  replace h16 := ic_neq h16
                                  first | (exfalso; omega) | (simp [bcmp] at h16; done)
                                · skip
                                  replace h16 := ic_neq' h16
                                  refine V.skip ?_
                                  refine VE.then_wp ?_
                                  refine V.seq ?_
                                  refine V.region ?_
                                  refine VL.r (.inl rfl) rfl (by decide) (yr_assign (u := .bool true) rfl rfl) ?_
                                  refine VL.nil ?_
                                  refine VE.then_wp ?_
                                  refine V.ret ?_
                                  refine ret1 rfl rfl (fun w1 hw => ?_)
                                  exact ⟨rfl, hw.below⟩

end Go.Proofs.Ytppfkajfekafaaa
