/- Walks: Own. Printed by gen.py. -/
import Derived.Test.YtppfkajfekafaaaWMark
import Derived.Test.YtppfkajfekafaaaWIn
import Derived.Test.YtppfkajfekafaaaOwn
import Derived.KernelRfl
namespace Go.Proofs.Ytppfkajfekafaaa
open Go.RowKit
set_option linter.unusedVariables false
set_option linter.unusedSimpArgs false
set_option maxRecDepth 20000

theorem sz24_Own : (Try.prog.info? 24).map (·.size) = some 1 := by kernel_rfl
theorem fb24_Own : flatB Try.prog 24 = true := by kernel_rfl
theorem known115_Own : Known Try.prog 115 := Known.mk' Try.func115 (by kernel_rfl)
theorem sz75_Own : (Try.prog.info? 75).map (·.size) = some 1 := by kernel_rfl
theorem fb75_Own : flatB Try.prog 75 = true := by kernel_rfl
theorem known114_Own : Known Try.prog 114 := Known.mk' Try.func114 (by kernel_rfl)
theorem zero77_Own : (Try.prog.info? 77).bind (·.zero) = some (Value.agg #[Value.slice none 0 0, Value.slice none 0 0, Value.slice none 0 0]) := by kernel_rfl
theorem known173_Own : Known Try.prog 173 := Known.mk' Try.func173 (by kernel_rfl)
theorem sz77_Own : (Try.prog.info? 77).map (·.size) = some 3 := by kernel_rfl
theorem lay77_Own : Lay Try.prog 77 [Value.slice none 0 0, Value.slice none 0 0, Value.slice none 0 0] [(0, 1), (1, 1), (2, 1)] := Lay.mk' (by kernel_rfl) (by kernel_rfl)
theorem known174_Own : Known Try.prog 174 := Known.mk' Try.func174 (by kernel_rfl)

theorem c_heldFF {w : World} {a : Option Addr} {c : Nat} {f : Nat → Option Addr × Nat} {xss : List (List Nat)} {k0 : Int} (hA : Cl w a (hd f xss)) (hR : Rws w f (mixR k0 xss xss.length)) (h0 : 0 ≤ k0) (hk0 : k0 ≤ 100000000) (hsz : bulk xss ≤ 1050000) : Pure Try.prog 114 [.slice a xss.length c, .int .i64 k0] w (.int .i64 (k0 + (sumK xss xss.length : Nat))) := by
  refine Pure.enter Try.func114 rfl Try.ntmps114 (Nat.le_of_ble_eq_true rfl) ?_
  have hxl : xss.length ≤ bulk xss := by unfold bulk; omega
  refine V.seq ?_
  refine V.region ?_
  refine VL.r (.inl rfl) rfl (by decide) (yr_assign (u := .int .i64 0) rfl rfl) ?_
  refine VL.nil ?_
  refine VE.then_wp ?_
  refine V.seq ?_
  refine V.seq ?_
  refine V.region ?_
  refine VL.r (.inl rfl) rfl (by decide) (yr_assign (u := .int .i64 0) rfl rfl) ?_
  refine VL.nil ?_
  refine VE.then_wp ?_
  refine V.block ?_
  refine V.loops (G := Nat) [(0, _)] (fun (k : Nat) => k ≤ xss.length) (fun (k : Nat) => [(1, .int .i64 (k0 + (sumK xss k : Nat))), (5, .int .i64 (k : Int))]) (fun (k : Nat) => xss.length - k) 0 (.cons rfl .nil) (.cons (congrArg (fun i => some (Value.int .i64 i)) (by rw [sumK_zero]; omega)) (.cons rfl .nil)) ?_ ?_
  · exact (by omega)
  rintro k hk
  show V _ _ _ _ ([(1, .int .i64 (k0 + (sumK xss k : Nat))), (5, .int .i64 (k : Int))] ++ [(0, _)]) _ _
  have hsk := sumK_mono xss k xss.length (by omega) (Nat.le_refl _)
  have hbu : bulk xss = xss.length + sumK xss xss.length := rfl
  have hrow := fun h => bulk_row (xss := xss) (k := k) h
  have hrk : ∀ w1, Hp w [] w1 → k < xss.length → Cl w1 (f k).1 (fl (marks (k0 + (sumK xss k : Nat)) (xss.getD k []).length)) := fun w1 h1 hk => by have := (hR.root h1) k (by rw [mixR_length]; exact hk); rwa [mixR_get k0 _ hk, if_pos hk] at this
  refine V.seq ?_
  refine V.seq ?_
  refine V.region ?_
  refine VL.r (.inl rfl) rfl (by decide) (yr_move rfl rfl) ?_
  refine VL.r (.inl rfl) rfl (by decide) (yr_move rfl rfl) ?_
  refine VL.r (.inl rfl) rfl (by decide) (yr_len rfl Try.underlying75 rfl) ?_
  refine VL.r (.inl rfl) rfl (by decide) (yr_icmp rfl (.inr (.inr (.inl rfl))) rfl rfl) ?_
  refine VL.nil ?_
  refine VE.then_wp ?_
  refine V.cond rfl (fun h1 => ?_) (fun h1 => ?_)
  · skip
    replace h1 := ic_lss h1
    have hrk2 := hrow (by omega)
    refine V.skip ?_
    refine VE.then_wp ?_
    refine V.seq ?_
    refine V.block ?_
    refine V.seq ?_
    refine V.region ?_
    refine VL.r (.inl rfl) rfl (by decide) (yr_move rfl rfl) ?_
    refine VL.r (.inl rfl) rfl (by decide) (yr_move rfl rfl) ?_
    refine VL.q (.inl rfl) rfl (by decide) (yq_idx (k := k) rfl Try.underlying75 sz24_Own rfl rfl (by first | exact Sees.root (by assumption) | exact Sees.own (by repeat (first | exact List.mem_cons_self | exact List.mem_append_left _ (by assumption) | apply List.mem_cons_of_mem | apply List.mem_append_right)) | exact Sees.root (hR _ (by omega)) | exact Sees.own (RowsIn.mem (by repeat (first | exact RowsIn.here | exact RowsIn.last | apply RowsIn.there | apply RowsIn.thereS)) _ (by omega)) | exact Sees.own (WRowsIn.mem (by repeat (first | exact WRowsIn.here | exact WRowsIn.last | apply WRowsIn.there | apply WRowsIn.thereS)) _ (by omega))) (by first | rfl | omega | (push_cast; rfl) | (push_cast; omega) | exact tmod_nat _ _) (by exact hd_length _ _) (by omega)) ?_
    refine VL.q (.inl rfl) rfl (by decide) (yq_loadH rfl fb24_Own rfl (by first | exact Sees.root (by assumption) | exact Sees.own (by repeat (first | exact List.mem_cons_self | exact List.mem_append_left _ (by assumption) | apply List.mem_cons_of_mem | apply List.mem_append_right)) | exact Sees.root (hR _ (by omega)) | exact Sees.own (RowsIn.mem (by repeat (first | exact RowsIn.here | exact RowsIn.last | apply RowsIn.there | apply RowsIn.thereS)) _ (by omega)) | exact Sees.own (WRowsIn.mem (by repeat (first | exact WRowsIn.here | exact WRowsIn.last | apply WRowsIn.there | apply WRowsIn.thereS)) _ (by omega))) (by omega)) ?_
    refine VL.r (.inl rfl) rfl (by decide) (yr_move rfl rfl) ?_
    refine VL.q (.inl rfl) rfl (by decide) (yq_callf rfl known115_Own (.cons rfl (.cons rfl .nil)) (fun w hw => (c_heldF (n := (xss.getD k []).length) (hrk w hw (by omega)) (by omega) (by omega) (by omega)))) ?_
    refine VL.r (.inl rfl) rfl (by decide) (yr_assign rfl rfl) ?_
    refine VL.nil ?_
    refine VE.then_wp ?_
    refine V.seq ?_
    refine V.region ?_
    refine VL.r (.inl rfl) rfl (by decide) (yr_move rfl rfl) ?_
    refine VL.r (.inl rfl) rfl (by decide) (yr_icmp rfl (.inr (.inr (.inl rfl))) rfl rfl) ?_
    refine VL.nil ?_
    refine VE.then_wp ?_
    refine V.cond rfl (fun h2 => ?_) (fun h2 => ?_)
    · skip
      replace h2 := ic_lss h2
      refine V.seq ?_
      refine V.region ?_
      refine VL.r (.inl rfl) rfl (by decide) (yr_assign (u := .int .i64 (-1)) rfl rfl) ?_
      refine VL.nil ?_
      refine VE.then_wp ?_
      refine V.ret ?_
      refine VE.block_ret ?_
      refine VE.then_ret ?_
      refine VE.then_ret ?_
      refine VE.block_ret ?_
      refine VE.then_ret ?_
      refine ret1 rfl rfl (fun w1 hw => ?_)
      exfalso; omega
    · skip
      replace h2 := ic_lss' h2
      refine V.skip ?_
      refine VE.block_normal ?_
      refine VE.then_wp ?_
      refine V.region ?_
      refine VL.r (.inl rfl) rfl (by decide) (yr_move rfl rfl) ?_
      refine VL.r (.inl rfl) rfl (by decide) (yr_int rfl rfl rfl (.inl ⟨rfl, wrap_in (by omega)⟩)) ?_
      refine VL.r (.inl rfl) rfl (by decide) (yr_assign rfl rfl) ?_
      refine VL.nil ?_
      refine VE.round (k + 1) ?_ ?_ ?_ ?_ ?_
      · exact (.cons (congrArg (fun i => some (Value.int .i64 i)) (by rw [sumK_succ (by omega)]; omega)) (.cons rfl .nil))
      · exact (.cons rfl .nil)
      · exact (fun w hw => hw)
      · omega
      · (try dsimp only); omega
  · skip
    replace h1 := ic_lss' h1
    refine V.exit ?_
    refine VE.then_exit ?_
    refine VE.then_exit ?_
    refine VE.block_here ?_
    refine VE.then_wp ?_
    refine V.seq ?_
    refine V.region ?_
    refine VL.r (.inl rfl) rfl (by decide) (yr_move rfl rfl) ?_
    refine VL.r (.inl rfl) rfl (by decide) (yr_assign rfl rfl) ?_
    refine VL.nil ?_
    refine VE.then_wp ?_
    refine V.ret ?_
    refine ret1 rfl rfl (fun w1 hw => ?_)
    obtain rfl : k = xss.length := by omega
    exact ⟨rfl, hw.below⟩

theorem c_heldDesign {w : World} {a a1 a2 : Option Addr} {c c1 c2 n1 n2 : Nat} {f : Nat → Option Addr × Nat} {xss : List (List Nat)} {k0 : Int} (hA : Cl w a (hd f xss)) (hR : Rws w f (mixR k0 xss xss.length)) (hW : Cl w a1 (fl (marks (k0 + (sumK xss xss.length : Nat)) n1))) (hG : Cl w a2 (fl (marks (k0 + (sumK xss xss.length : Nat) + n1) n2))) (h0 : 0 ≤ k0) (hk0 : k0 ≤ 10000000) (hsz : bulk xss + n1 + n2 ≤ 1050000) : Pure Try.prog 52 [.agg #[.slice a xss.length c, .slice a1 n1 c1, .slice a2 n2 c2], .int .i64 k0] w (.int .i64 (k0 + (sumK xss xss.length : Nat) + n1 + n2)) := by
  refine Pure.enter Try.func52 rfl Try.ntmps52 (Nat.le_of_ble_eq_true rfl) ?_
  have hbu : bulk xss = xss.length + sumK xss xss.length := rfl
  refine V.seq ?_
  refine V.region ?_
  refine VL.new1 (.inl rfl) rfl (by decide) (yn_box rfl rfl (.inr ⟨rfl, rfl⟩)) ?_
  intro b2
  refine VL.r (.inl rfl) rfl (by decide) (yr_assign (u := .int .i64 0) rfl rfl) ?_
  refine VL.nil ?_
  refine VE.then_wp ?_
  refine V.seq ?_
  refine V.region ?_
  refine VL.r (.inl rfl) rfl (by decide) (yr_fieldAddr rfl Try.underlying77 rfl rfl sz75_Own (by decide) rfl) ?_
  refine VL.q (.inl rfl) rfl (by decide) (yq_load rfl fb75_Own rfl (by first | exact Sees.root (by assumption) | exact Sees.own (by repeat (first | exact List.mem_cons_self | exact List.mem_append_left _ (by assumption) | apply List.mem_cons_of_mem | apply List.mem_append_right)) | exact Sees.root (hR _ (by omega)) | exact Sees.own (RowsIn.mem (by repeat (first | exact RowsIn.here | exact RowsIn.last | apply RowsIn.there | apply RowsIn.thereS)) _ (by omega)) | exact Sees.own (WRowsIn.mem (by repeat (first | exact WRowsIn.here | exact WRowsIn.last | apply WRowsIn.there | apply WRowsIn.thereS)) _ (by omega))) rfl) ?_
  refine VL.r (.inl rfl) rfl (by decide) (yr_move rfl rfl) ?_
  refine VL.q (.inl rfl) rfl (by decide) (yq_callf rfl known114_Own (.cons rfl (.cons rfl .nil)) (fun w hw => (c_heldFF (by first | exact Sees.root (by assumption) w hw | exact Sees.own (by repeat (first | exact List.mem_cons_self | exact List.mem_append_left _ (by assumption) | apply List.mem_cons_of_mem | apply List.mem_append_right)) w hw) (by first | exact Rws.root (by assumption) hw | exact Rws.own (by repeat (first | exact RowsIn.here | exact RowsIn.last | apply RowsIn.there | apply RowsIn.thereS)) hw) (by omega) (by omega) (by omega)))) ?_
  refine VL.r (.inl rfl) rfl (by decide) (yr_assign rfl rfl) ?_
  refine VL.nil ?_
  refine VE.then_wp ?_
  refine V.seq ?_
  refine V.seq ?_
  refine V.region ?_
  refine VL.r (.inl rfl) rfl (by decide) (yr_move rfl rfl) ?_
  refine VL.r (.inl rfl) rfl (by decide) (yr_icmp rfl (.inr (.inr (.inl rfl))) rfl rfl) ?_
  refine VL.nil ?_
  refine VE.then_wp ?_
  refine V.cond rfl (fun h1 => ?_) (fun h1 => ?_)
  · skip
    replace h1 := ic_lss h1
    refine V.seq ?_
    refine V.region ?_
    refine VL.r (.inl rfl) rfl (by decide) (yr_assign (u := .int .i64 (-1)) rfl rfl) ?_
    refine VL.nil ?_
    refine VE.then_wp ?_
    refine V.ret ?_
    refine VE.then_ret ?_
    refine ret1 rfl rfl (fun w1 hw => ?_)
    exfalso; omega
  · skip
    replace h1 := ic_lss' h1
    refine V.skip ?_
    refine VE.then_wp ?_
    refine V.seq ?_
    refine V.region ?_
    refine VL.r (.inl rfl) rfl (by decide) (yr_fieldAddr rfl Try.underlying77 rfl rfl sz24_Own (by decide) rfl) ?_
    refine VL.q (.inl rfl) rfl (by decide) (yq_load rfl fb24_Own rfl (by first | exact Sees.root (by assumption) | exact Sees.own (by repeat (first | exact List.mem_cons_self | exact List.mem_append_left _ (by assumption) | apply List.mem_cons_of_mem | apply List.mem_append_right)) | exact Sees.root (hR _ (by omega)) | exact Sees.own (RowsIn.mem (by repeat (first | exact RowsIn.here | exact RowsIn.last | apply RowsIn.there | apply RowsIn.thereS)) _ (by omega)) | exact Sees.own (WRowsIn.mem (by repeat (first | exact WRowsIn.here | exact WRowsIn.last | apply WRowsIn.there | apply WRowsIn.thereS)) _ (by omega))) rfl) ?_
    refine VL.r (.inl rfl) rfl (by decide) (yr_move rfl rfl) ?_
    refine VL.q (.inl rfl) rfl (by decide) (yq_callf rfl known115_Own (.cons rfl (.cons rfl .nil)) (fun w hw => c_heldF (by first | exact Sees.root (by assumption) w hw | exact Sees.own (by repeat (first | exact List.mem_cons_self | exact List.mem_append_left _ (by assumption) | apply List.mem_cons_of_mem | apply List.mem_append_right)) w hw) (by omega) (by omega) (by omega))) ?_
    refine VL.r (.inl rfl) rfl (by decide) (yr_assign rfl rfl) ?_
    refine VL.nil ?_
    refine VE.then_wp ?_
    refine V.seq ?_
    refine V.seq ?_
    refine V.region ?_
    refine VL.r (.inl rfl) rfl (by decide) (yr_move rfl rfl) ?_
    refine VL.r (.inl rfl) rfl (by decide) (yr_icmp rfl (.inr (.inr (.inl rfl))) rfl rfl) ?_
    refine VL.nil ?_
    refine VE.then_wp ?_
    refine V.cond rfl (fun h2 => ?_) (fun h2 => ?_)
    · skip
      replace h2 := ic_lss h2
      refine V.seq ?_
      refine V.region ?_
      refine VL.r (.inl rfl) rfl (by decide) (yr_assign (u := .int .i64 (-1)) rfl rfl) ?_
      refine VL.nil ?_
      refine VE.then_wp ?_
      refine V.ret ?_
      refine VE.then_ret ?_
      refine ret1 rfl rfl (fun w1 hw => ?_)
      exfalso; omega
    · skip
      replace h2 := ic_lss' h2
      refine V.skip ?_
      refine VE.then_wp ?_
      refine V.seq ?_
      refine V.region ?_
      refine VL.r (.inl rfl) rfl (by decide) (yr_fieldAddr rfl Try.underlying77 rfl rfl sz24_Own (by decide) rfl) ?_
      refine VL.q (.inl rfl) rfl (by decide) (yq_load rfl fb24_Own rfl (by first | exact Sees.root (by assumption) | exact Sees.own (by repeat (first | exact List.mem_cons_self | exact List.mem_append_left _ (by assumption) | apply List.mem_cons_of_mem | apply List.mem_append_right)) | exact Sees.root (hR _ (by omega)) | exact Sees.own (RowsIn.mem (by repeat (first | exact RowsIn.here | exact RowsIn.last | apply RowsIn.there | apply RowsIn.thereS)) _ (by omega)) | exact Sees.own (WRowsIn.mem (by repeat (first | exact WRowsIn.here | exact WRowsIn.last | apply WRowsIn.there | apply WRowsIn.thereS)) _ (by omega))) rfl) ?_
      refine VL.r (.inl rfl) rfl (by decide) (yr_move rfl rfl) ?_
      refine VL.q (.inl rfl) rfl (by decide) (yq_callf rfl known115_Own (.cons rfl (.cons rfl .nil)) (fun w hw => c_heldF (by first | exact Sees.root (by assumption) w hw | exact Sees.own (by repeat (first | exact List.mem_cons_self | exact List.mem_append_left _ (by assumption) | apply List.mem_cons_of_mem | apply List.mem_append_right)) w hw) (by omega) (by omega) (by omega))) ?_
      refine VL.r (.inl rfl) rfl (by decide) (yr_assign rfl rfl) ?_
      refine VL.nil ?_
      refine VE.then_wp ?_
      refine V.seq ?_
      refine V.seq ?_
      refine V.region ?_
      refine VL.r (.inl rfl) rfl (by decide) (yr_move rfl rfl) ?_
      refine VL.r (.inl rfl) rfl (by decide) (yr_icmp rfl (.inr (.inr (.inl rfl))) rfl rfl) ?_
      refine VL.nil ?_
      refine VE.then_wp ?_
      refine V.cond rfl (fun h3 => ?_) (fun h3 => ?_)
      · skip
        replace h3 := ic_lss h3
        refine V.seq ?_
        refine V.region ?_
        refine VL.r (.inl rfl) rfl (by decide) (yr_assign (u := .int .i64 (-1)) rfl rfl) ?_
        refine VL.nil ?_
        refine VE.then_wp ?_
        refine V.ret ?_
        refine VE.then_ret ?_
        refine ret1 rfl rfl (fun w1 hw => ?_)
        exfalso; omega
      · skip
        replace h3 := ic_lss' h3
        refine V.skip ?_
        refine VE.then_wp ?_
        refine V.seq ?_
        refine V.region ?_
        refine VL.r (.inl rfl) rfl (by decide) (yr_move rfl rfl) ?_
        refine VL.r (.inl rfl) rfl (by decide) (yr_assign rfl rfl) ?_
        refine VL.nil ?_
        refine VE.then_wp ?_
        refine V.ret ?_
        refine ret1 rfl rfl (fun w1 hw => ?_)
        exact ⟨rfl, hw.below⟩

theorem c_giveY {w : World} {a a1 a2 : Option Addr} {c c1 c2 : Nat} {f : Nat → Option Addr × Nat} {xss : List (List Nat)} {ws gs : List Nat} {m m1 m2 : Nat} (em : m = xss.length) (em1 : m1 = ws.length) (em2 : m2 = gs.length) (hA : Cl w a (hd f xss)) (hR : Rws w f xss) (hW : Cl w a1 (fl ws)) (hG : Cl w a2 (fl gs)) (hsz : bulk xss + ws.length + gs.length ≤ 1050000) (hv : validD xss ws gs = true) : Pure Try.prog 108 [.agg #[.slice a m c, .slice a1 m1 c1, .slice a2 m2 c2]] w (.tuple #[.agg #[.slice a m c, .slice a1 m1 c1, .slice a2 m2 c2], .bool true]) := by
  subst em
  subst em1
  subst em2
  refine Pure.enter Try.func108 rfl Try.ntmps108 (Nat.le_of_ble_eq_true rfl) ?_
  refine V.seq ?_
  refine V.region ?_
  refine VL.new1 (.inl rfl) rfl (by decide) (yn_box rfl rfl (.inr ⟨rfl, rfl⟩)) ?_
  intro b1
  refine VL.new1 (.inl rfl) rfl (by decide) (yn_alloc rfl zero77_Own rfl) ?_
  intro b2
  refine VL.r (.inl rfl) rfl (by decide) (yr_assign (u := .bool false) rfl rfl) ?_
  refine VL.nil ?_
  refine VE.then_wp ?_
  refine V.seq ?_
  refine V.seq ?_
  refine V.region ?_
  refine VL.q (.inl rfl) rfl (by decide) (yq_callf rfl known173_Own (.cons rfl .nil) (fun w hw => (c_l07Is (by first | exact Sees.root (by assumption) w hw | exact Sees.own (by repeat (first | exact List.mem_cons_self | exact List.mem_append_left _ (by assumption) | apply List.mem_cons_of_mem | apply List.mem_append_right)) w hw) (by first | exact Sees.root (by assumption) w hw | exact Sees.own (by repeat (first | exact List.mem_cons_self | exact List.mem_append_left _ (by assumption) | apply List.mem_cons_of_mem | apply List.mem_append_right)) w hw) (by first | exact Rws.root (by assumption) hw | exact Rws.own (by repeat (first | exact RowsIn.here | exact RowsIn.last | apply RowsIn.there | apply RowsIn.thereS)) hw) (by first | exact Sees.root (by assumption) w hw | exact Sees.own (by repeat (first | exact List.mem_cons_self | exact List.mem_append_left _ (by assumption) | apply List.mem_cons_of_mem | apply List.mem_append_right)) w hw) (by first | exact Sees.root (by assumption) w hw | exact Sees.own (by repeat (first | exact List.mem_cons_self | exact List.mem_append_left _ (by assumption) | apply List.mem_cons_of_mem | apply List.mem_append_right)) w hw) (by omega)))) ?_
  refine VL.r (.inl rfl) rfl (by decide) (yr_not rfl rfl) ?_
  refine VL.nil ?_
  refine VE.then_wp ?_
  refine V.cond rfl (fun h1 => ?_) (fun h1 => ?_)
  · skip
    replace h1 := bnot_t h1
    rw [hv] at h1; cases h1
  · skip
    replace h1 := bnot_f h1
    refine V.skip ?_
    refine VE.then_wp ?_
    refine V.seq ?_
    refine V.region ?_
    refine VL.q (.inl rfl) rfl (by decide) (yq_loadS rfl Try.underlying77 sz77_Own rfl (by first | exact Sees.root (by assumption) | exact Sees.own (by repeat (first | exact List.mem_cons_self | exact List.mem_append_left _ (by assumption) | apply List.mem_cons_of_mem | apply List.mem_append_right)) | exact Sees.root (hR _ (by omega)) | exact Sees.own (RowsIn.mem (by repeat (first | exact RowsIn.here | exact RowsIn.last | apply RowsIn.there | apply RowsIn.thereS)) _ (by omega)) | exact Sees.own (WRowsIn.mem (by repeat (first | exact WRowsIn.here | exact WRowsIn.last | apply WRowsIn.there | apply WRowsIn.thereS)) _ (by omega))) rfl rfl rfl) ?_
    refine VL.s (.inl rfl) rfl (yc_store rfl sz77_Own rfl rfl (by repeat (first | exact UpdF.here | apply UpdF.there | apply UpdF.thereS)) (.inr ⟨rfl, rfl⟩) rfl (by first | exact Nat.le_of_ble_eq_true rfl | simp) (by decide) rfl) ?_
    rintro ⟨⟩
    refine VL.r (.inl rfl) rfl (by decide) (yr_assign (u := .bool true) rfl rfl) ?_
    refine VL.nil ?_
    refine VE.then_wp ?_
    refine V.ret ?_
    refine retN rfl (.cons (rv_cellS rfl Try.underlying77 sz77_Own (by first | exact Sees.root (by assumption) | exact Sees.own (by repeat (first | exact List.mem_cons_self | exact List.mem_append_left _ (by assumption) | apply List.mem_cons_of_mem | apply List.mem_append_right)) | exact Sees.root (hR _ (by omega)) | exact Sees.own (RowsIn.mem (by repeat (first | exact RowsIn.here | exact RowsIn.last | apply RowsIn.there | apply RowsIn.thereS)) _ (by omega)) | exact Sees.own (WRowsIn.mem (by repeat (first | exact WRowsIn.here | exact WRowsIn.last | apply WRowsIn.there | apply WRowsIn.thereS)) _ (by omega))) rfl rfl rfl) (.cons (rv_tmp rfl (by nofun)) .nil)) (by nofun) (fun w1 hw => ?_)
    exact ⟨rfl, hw.below⟩

theorem c_giveN {w : World} {a a1 a2 : Option Addr} {c c1 c2 : Nat} {f : Nat → Option Addr × Nat} {xss : List (List Nat)} {ws gs : List Nat} {m m1 m2 : Nat} (em : m = xss.length) (em1 : m1 = ws.length) (em2 : m2 = gs.length) (hA : Cl w a (hd f xss)) (hR : Rws w f xss) (hW : Cl w a1 (fl ws)) (hG : Cl w a2 (fl gs)) (hsz : bulk xss + ws.length + gs.length ≤ 1050000) (hv : validD xss ws gs = false) : Pure Try.prog 108 [.agg #[.slice a m c, .slice a1 m1 c1, .slice a2 m2 c2]] w (.tuple #[.agg #[.slice none 0 0, .slice none 0 0, .slice none 0 0], .bool false]) := by
  subst em
  subst em1
  subst em2
  refine Pure.enter Try.func108 rfl Try.ntmps108 (Nat.le_of_ble_eq_true rfl) ?_
  refine V.seq ?_
  refine V.region ?_
  refine VL.new1 (.inl rfl) rfl (by decide) (yn_box rfl rfl (.inr ⟨rfl, rfl⟩)) ?_
  intro b1
  refine VL.new1 (.inl rfl) rfl (by decide) (yn_alloc rfl zero77_Own rfl) ?_
  intro b2
  refine VL.r (.inl rfl) rfl (by decide) (yr_assign (u := .bool false) rfl rfl) ?_
  refine VL.nil ?_
  refine VE.then_wp ?_
  refine V.seq ?_
  refine V.seq ?_
  refine V.region ?_
  refine VL.q (.inl rfl) rfl (by decide) (yq_callf rfl known173_Own (.cons rfl .nil) (fun w hw => (c_l07Is (by first | exact Sees.root (by assumption) w hw | exact Sees.own (by repeat (first | exact List.mem_cons_self | exact List.mem_append_left _ (by assumption) | apply List.mem_cons_of_mem | apply List.mem_append_right)) w hw) (by first | exact Sees.root (by assumption) w hw | exact Sees.own (by repeat (first | exact List.mem_cons_self | exact List.mem_append_left _ (by assumption) | apply List.mem_cons_of_mem | apply List.mem_append_right)) w hw) (by first | exact Rws.root (by assumption) hw | exact Rws.own (by repeat (first | exact RowsIn.here | exact RowsIn.last | apply RowsIn.there | apply RowsIn.thereS)) hw) (by first | exact Sees.root (by assumption) w hw | exact Sees.own (by repeat (first | exact List.mem_cons_self | exact List.mem_append_left _ (by assumption) | apply List.mem_cons_of_mem | apply List.mem_append_right)) w hw) (by first | exact Sees.root (by assumption) w hw | exact Sees.own (by repeat (first | exact List.mem_cons_self | exact List.mem_append_left _ (by assumption) | apply List.mem_cons_of_mem | apply List.mem_append_right)) w hw) (by omega)))) ?_
  refine VL.r (.inl rfl) rfl (by decide) (yr_not rfl rfl) ?_
  refine VL.nil ?_
  refine VE.then_wp ?_
  refine V.cond rfl (fun h1 => ?_) (fun h1 => ?_)
  · skip
    replace h1 := bnot_t h1
    refine V.seq ?_
    refine V.region ?_
    refine VL.r (.inl rfl) rfl (by decide) (yr_build rfl lay77_Own rfl .nil (by first | (simp; done) | (simp [vv]; done) | (simp [cn, cn1, cn0]; done)) rfl) ?_
    refine VL.s (.inl rfl) rfl (yc_store rfl sz77_Own rfl rfl (by repeat (first | exact UpdF.here | apply UpdF.there | apply UpdF.thereS)) (.inr ⟨rfl, rfl⟩) rfl (by first | exact Nat.le_of_ble_eq_true rfl | simp) (by decide) rfl) ?_
    rintro ⟨⟩
    refine VL.r (.inl rfl) rfl (by decide) (yr_assign (u := .bool false) rfl rfl) ?_
    refine VL.nil ?_
    refine VE.then_wp ?_
    refine V.ret ?_
    refine VE.then_ret ?_
    refine retN rfl (.cons (rv_cellS rfl Try.underlying77 sz77_Own (by first | exact Sees.root (by assumption) | exact Sees.own (by repeat (first | exact List.mem_cons_self | exact List.mem_append_left _ (by assumption) | apply List.mem_cons_of_mem | apply List.mem_append_right)) | exact Sees.root (hR _ (by omega)) | exact Sees.own (RowsIn.mem (by repeat (first | exact RowsIn.here | exact RowsIn.last | apply RowsIn.there | apply RowsIn.thereS)) _ (by omega)) | exact Sees.own (WRowsIn.mem (by repeat (first | exact WRowsIn.here | exact WRowsIn.last | apply WRowsIn.there | apply WRowsIn.thereS)) _ (by omega))) rfl rfl rfl) (.cons (rv_tmp rfl (by nofun)) .nil)) (by nofun) (fun w1 hw => ?_)
    exact ⟨rfl, hw.below⟩
  · skip
    replace h1 := bnot_f h1
    rw [hv] at h1; cases h1

theorem c_ifDesignY {w : World} {a a1 a2 : Option Addr} {c c1 c2 : Nat} {f : Nat → Option Addr × Nat} {xss : List (List Nat)} {ws gs : List Nat} {m m1 m2 : Nat} (em : m = xss.length) (em1 : m1 = ws.length) (em2 : m2 = gs.length) (hA : Cl w a (hd f xss)) (hR : Rws w f xss) (hW : Cl w a1 (fl ws)) (hG : Cl w a2 (fl gs)) (hsz : bulk xss + ws.length + gs.length ≤ 1050000) (hv : validD xss ws gs = true) : Pure Try.prog 111 [.agg #[.slice a m c, .slice a1 m1 c1, .slice a2 m2 c2]] w (.tuple #[.agg #[.slice a m c, .slice a1 m1 c1, .slice a2 m2 c2], .bool true]) := by
  subst em
  subst em1
  subst em2
  refine Pure.enter Try.func111 rfl Try.ntmps111 (Nat.le_of_ble_eq_true rfl) ?_
  refine V.seq ?_
  refine V.region ?_
  refine VL.new1 (.inl rfl) rfl (by decide) (yn_box rfl rfl (.inr ⟨rfl, rfl⟩)) ?_
  intro b1
  refine VL.new1 (.inl rfl) rfl (by decide) (yn_alloc rfl zero77_Own rfl) ?_
  intro b2
  refine VL.r (.inl rfl) rfl (by decide) (yr_assign (u := .bool false) rfl rfl) ?_
  refine VL.nil ?_
  refine VE.then_wp ?_
  refine V.seq ?_
  refine V.seq ?_
  refine V.region ?_
  refine VL.q (.inl rfl) rfl (by decide) (yq_loadS rfl Try.underlying77 sz77_Own rfl (by first | exact Sees.root (by assumption) | exact Sees.own (by repeat (first | exact List.mem_cons_self | exact List.mem_append_left _ (by assumption) | apply List.mem_cons_of_mem | apply List.mem_append_right)) | exact Sees.root (hR _ (by omega)) | exact Sees.own (RowsIn.mem (by repeat (first | exact RowsIn.here | exact RowsIn.last | apply RowsIn.there | apply RowsIn.thereS)) _ (by omega)) | exact Sees.own (WRowsIn.mem (by repeat (first | exact WRowsIn.here | exact WRowsIn.last | apply WRowsIn.there | apply WRowsIn.thereS)) _ (by omega))) rfl rfl rfl) ?_
  refine VL.q (.inl rfl) rfl (by decide) (yq_callf rfl known174_Own (.cons rfl .nil) (fun w hw => (c_implValid (by first | exact Sees.root (by assumption) w hw | exact Sees.own (by repeat (first | exact List.mem_cons_self | exact List.mem_append_left _ (by assumption) | apply List.mem_cons_of_mem | apply List.mem_append_right)) w hw) (by first | exact Rws.root (by assumption) hw | exact Rws.own (by repeat (first | exact RowsIn.here | exact RowsIn.last | apply RowsIn.there | apply RowsIn.thereS)) hw) (by first | exact Sees.root (by assumption) w hw | exact Sees.own (by repeat (first | exact List.mem_cons_self | exact List.mem_append_left _ (by assumption) | apply List.mem_cons_of_mem | apply List.mem_append_right)) w hw) (by first | exact Sees.root (by assumption) w hw | exact Sees.own (by repeat (first | exact List.mem_cons_self | exact List.mem_append_left _ (by assumption) | apply List.mem_cons_of_mem | apply List.mem_append_right)) w hw) (by omega)))) ?_
  refine VL.r (.inl rfl) rfl (by decide) (yr_not rfl rfl) ?_
  refine VL.nil ?_
  refine VE.then_wp ?_
  refine V.cond rfl (fun h1 => ?_) (fun h1 => ?_)
  · skip
    replace h1 := bnot_t h1
    rw [hv] at h1; cases h1
  · skip
    replace h1 := bnot_f h1
    refine V.skip ?_
    refine VE.then_wp ?_
    refine V.seq ?_
    refine V.region ?_
    refine VL.q (.inl rfl) rfl (by decide) (yq_loadS rfl Try.underlying77 sz77_Own rfl (by first | exact Sees.root (by assumption) | exact Sees.own (by repeat (first | exact List.mem_cons_self | exact List.mem_append_left _ (by assumption) | apply List.mem_cons_of_mem | apply List.mem_append_right)) | exact Sees.root (hR _ (by omega)) | exact Sees.own (RowsIn.mem (by repeat (first | exact RowsIn.here | exact RowsIn.last | apply RowsIn.there | apply RowsIn.thereS)) _ (by omega)) | exact Sees.own (WRowsIn.mem (by repeat (first | exact WRowsIn.here | exact WRowsIn.last | apply WRowsIn.there | apply WRowsIn.thereS)) _ (by omega))) rfl rfl rfl) ?_
    refine VL.s (.inl rfl) rfl (yc_store rfl sz77_Own rfl rfl (by repeat (first | exact UpdF.here | apply UpdF.there | apply UpdF.thereS)) (.inr ⟨rfl, rfl⟩) rfl (by first | exact Nat.le_of_ble_eq_true rfl | simp) (by decide) rfl) ?_
    rintro ⟨⟩
    refine VL.r (.inl rfl) rfl (by decide) (yr_assign (u := .bool true) rfl rfl) ?_
    refine VL.nil ?_
    refine VE.then_wp ?_
    refine V.ret ?_
    refine retN rfl (.cons (rv_cellS rfl Try.underlying77 sz77_Own (by first | exact Sees.root (by assumption) | exact Sees.own (by repeat (first | exact List.mem_cons_self | exact List.mem_append_left _ (by assumption) | apply List.mem_cons_of_mem | apply List.mem_append_right)) | exact Sees.root (hR _ (by omega)) | exact Sees.own (RowsIn.mem (by repeat (first | exact RowsIn.here | exact RowsIn.last | apply RowsIn.there | apply RowsIn.thereS)) _ (by omega)) | exact Sees.own (WRowsIn.mem (by repeat (first | exact WRowsIn.here | exact WRowsIn.last | apply WRowsIn.there | apply WRowsIn.thereS)) _ (by omega))) rfl rfl rfl) (.cons (rv_tmp rfl (by nofun)) .nil)) (by nofun) (fun w1 hw => ?_)
    exact ⟨rfl, hw.below⟩

theorem c_ifDesignN {w : World} {a a1 a2 : Option Addr} {c c1 c2 : Nat} {f : Nat → Option Addr × Nat} {xss : List (List Nat)} {ws gs : List Nat} {m m1 m2 : Nat} (em : m = xss.length) (em1 : m1 = ws.length) (em2 : m2 = gs.length) (hA : Cl w a (hd f xss)) (hR : Rws w f xss) (hW : Cl w a1 (fl ws)) (hG : Cl w a2 (fl gs)) (hsz : bulk xss + ws.length + gs.length ≤ 1050000) (hv : validD xss ws gs = false) : Pure Try.prog 111 [.agg #[.slice a m c, .slice a1 m1 c1, .slice a2 m2 c2]] w (.tuple #[.agg #[.slice none 0 0, .slice none 0 0, .slice none 0 0], .bool false]) := by
  subst em
  subst em1
  subst em2
  refine Pure.enter Try.func111 rfl Try.ntmps111 (Nat.le_of_ble_eq_true rfl) ?_
  refine V.seq ?_
  refine V.region ?_
  refine VL.new1 (.inl rfl) rfl (by decide) (yn_box rfl rfl (.inr ⟨rfl, rfl⟩)) ?_
  intro b1
  refine VL.new1 (.inl rfl) rfl (by decide) (yn_alloc rfl zero77_Own rfl) ?_
  intro b2
  refine VL.r (.inl rfl) rfl (by decide) (yr_assign (u := .bool false) rfl rfl) ?_
  refine VL.nil ?_
  refine VE.then_wp ?_
  refine V.seq ?_
  refine V.seq ?_
  refine V.region ?_
  refine VL.q (.inl rfl) rfl (by decide) (yq_loadS rfl Try.underlying77 sz77_Own rfl (by first | exact Sees.root (by assumption) | exact Sees.own (by repeat (first | exact List.mem_cons_self | exact List.mem_append_left _ (by assumption) | apply List.mem_cons_of_mem | apply List.mem_append_right)) | exact Sees.root (hR _ (by omega)) | exact Sees.own (RowsIn.mem (by repeat (first | exact RowsIn.here | exact RowsIn.last | apply RowsIn.there | apply RowsIn.thereS)) _ (by omega)) | exact Sees.own (WRowsIn.mem (by repeat (first | exact WRowsIn.here | exact WRowsIn.last | apply WRowsIn.there | apply WRowsIn.thereS)) _ (by omega))) rfl rfl rfl) ?_
  refine VL.q (.inl rfl) rfl (by decide) (yq_callf rfl known174_Own (.cons rfl .nil) (fun w hw => (c_implValid (by first | exact Sees.root (by assumption) w hw | exact Sees.own (by repeat (first | exact List.mem_cons_self | exact List.mem_append_left _ (by assumption) | apply List.mem_cons_of_mem | apply List.mem_append_right)) w hw) (by first | exact Rws.root (by assumption) hw | exact Rws.own (by repeat (first | exact RowsIn.here | exact RowsIn.last | apply RowsIn.there | apply RowsIn.thereS)) hw) (by first | exact Sees.root (by assumption) w hw | exact Sees.own (by repeat (first | exact List.mem_cons_self | exact List.mem_append_left _ (by assumption) | apply List.mem_cons_of_mem | apply List.mem_append_right)) w hw) (by first | exact Sees.root (by assumption) w hw | exact Sees.own (by repeat (first | exact List.mem_cons_self | exact List.mem_append_left _ (by assumption) | apply List.mem_cons_of_mem | apply List.mem_append_right)) w hw) (by omega)))) ?_
  refine VL.r (.inl rfl) rfl (by decide) (yr_not rfl rfl) ?_
  refine VL.nil ?_
  refine VE.then_wp ?_
  refine V.cond rfl (fun h1 => ?_) (fun h1 => ?_)
  · skip
    replace h1 := bnot_t h1
    refine V.seq ?_
    refine V.region ?_
    refine VL.r (.inl rfl) rfl (by decide) (yr_build rfl lay77_Own rfl .nil (by first | (simp; done) | (simp [vv]; done) | (simp [cn, cn1, cn0]; done)) rfl) ?_
    refine VL.s (.inl rfl) rfl (yc_store rfl sz77_Own rfl rfl (by repeat (first | exact UpdF.here | apply UpdF.there | apply UpdF.thereS)) (.inr ⟨rfl, rfl⟩) rfl (by first | exact Nat.le_of_ble_eq_true rfl | simp) (by decide) rfl) ?_
    rintro ⟨⟩
    refine VL.r (.inl rfl) rfl (by decide) (yr_assign (u := .bool false) rfl rfl) ?_
    refine VL.nil ?_
    refine VE.then_wp ?_
    refine V.ret ?_
    refine VE.then_ret ?_
    refine retN rfl (.cons (rv_cellS rfl Try.underlying77 sz77_Own (by first | exact Sees.root (by assumption) | exact Sees.own (by repeat (first | exact List.mem_cons_self | exact List.mem_append_left _ (by assumption) | apply List.mem_cons_of_mem | apply List.mem_append_right)) | exact Sees.root (hR _ (by omega)) | exact Sees.own (RowsIn.mem (by repeat (first | exact RowsIn.here | exact RowsIn.last | apply RowsIn.there | apply RowsIn.thereS)) _ (by omega)) | exact Sees.own (WRowsIn.mem (by repeat (first | exact WRowsIn.here | exact WRowsIn.last | apply WRowsIn.there | apply WRowsIn.thereS)) _ (by omega))) rfl rfl rfl) (.cons (rv_tmp rfl (by nofun)) .nil)) (by nofun) (fun w1 hw => ?_)
    exact ⟨rfl, hw.below⟩
  · skip
    replace h1 := bnot_f h1
    rw [hv] at h1; cases h1

end Go.Proofs.Ytppfkajfekafaaa
