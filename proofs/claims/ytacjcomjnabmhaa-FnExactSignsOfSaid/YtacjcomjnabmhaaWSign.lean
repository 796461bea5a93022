/- Walks: Sign. Printed by gen.py. -/
import Derived.Test.YtacjcomjnabmhaaWSquare
import Derived.Test.YtacjcomjnabmhaaWMark
import Derived.Test.YtacjcomjnabmhaaWIn
import Derived.Test.YtacjcomjnabmhaaWImp
import Derived.Test.YtacjcomjnabmhaaSign
import Derived.KernelRfl
namespace Go.Proofs.Ytacjcomjnabmhaa
open Go.RowKit
set_option linter.unusedVariables false
set_option linter.unusedSimpArgs false
set_option maxRecDepth 20000

theorem known207_Sign : Known Try.prog 207 := Known.mk' Try.func207 (by kernel_rfl)
theorem known167_Sign : Known Try.prog 167 := Known.mk' Try.func167 (by kernel_rfl)
theorem elt22_Sign : Elt Try.prog 22 [Value.float .f32 0] 4 := Elt.mk' (by kernel_rfl) (by decide)
theorem sz29_Sign : (Try.prog.info? 29).map (·.size) = some 1 := by kernel_rfl
theorem mixed_Sign : Try.prog.follows .mixedOrders = true := by kernel_rfl
theorem known78_Sign : Known Try.prog 78 := Known.mk' Try.func78 (by kernel_rfl)
theorem known92_Sign : Known Try.prog 92 := Known.mk' Try.func92 (by kernel_rfl)
theorem known79_Sign : Known Try.prog 79 := Known.mk' Try.func79 (by kernel_rfl)
theorem sz44_Sign : (Try.prog.info? 44).map (·.size) = some 1 := by kernel_rfl
theorem fb44_Sign : flatB Try.prog 44 = true := by kernel_rfl
theorem fb29_Sign : flatB Try.prog 29 = true := by kernel_rfl
theorem sz22_Sign : (Try.prog.info? 22).map (·.size) = some 1 := by kernel_rfl
theorem fb22_Sign : flatB Try.prog 22 = true := by kernel_rfl
theorem known93_Sign : Known Try.prog 93 := Known.mk' Try.func93 (by kernel_rfl)
theorem known94_Sign : Known Try.prog 94 := Known.mk' Try.func94 (by kernel_rfl)
theorem sz48_Sign : (Try.prog.info? 48).map (·.size) = some 3 := by kernel_rfl
theorem known84_Sign : Known Try.prog 84 := Known.mk' Try.func84 (by kernel_rfl)
theorem known95_Sign : Known Try.prog 95 := Known.mk' Try.func95 (by kernel_rfl)
theorem known96_Sign : Known Try.prog 96 := Known.mk' Try.func96 (by kernel_rfl)
theorem known97_Sign : Known Try.prog 97 := Known.mk' Try.func97 (by kernel_rfl)
theorem known98_Sign : Known Try.prog 98 := Known.mk' Try.func98 (by kernel_rfl)
theorem known99_Sign : Known Try.prog 99 := Known.mk' Try.func99 (by kernel_rfl)
theorem sz46_Sign : (Try.prog.info? 46).map (·.size) = some 3 := by kernel_rfl
theorem known25_Sign : Known Try.prog 25 := Known.mk' Try.func25 (by kernel_rfl)
theorem known27_Sign : Known Try.prog 27 := Known.mk' Try.func27 (by kernel_rfl)
theorem known32_Sign : Known Try.prog 32 := Known.mk' Try.func32 (by kernel_rfl)
theorem zero48_Sign : (Try.prog.info? 48).bind (·.zero) = some (Value.agg #[Value.slice none 0 0, Value.slice none 0 0, Value.slice none 0 0]) := by kernel_rfl
theorem known33_Sign : Known Try.prog 33 := Known.mk' Try.func33 (by kernel_rfl)
theorem known18_Sign : Known Try.prog 18 := Known.mk' Try.func18 (by kernel_rfl)
theorem known29_Sign : Known Try.prog 29 := Known.mk' Try.func29 (by kernel_rfl)
theorem known30_Sign : Known Try.prog 30 := Known.mk' Try.func30 (by kernel_rfl)
theorem known21_Sign : Known Try.prog 21 := Known.mk' Try.func21 (by kernel_rfl)
theorem known22_Sign : Known Try.prog 22 := Known.mk' Try.func22 (by kernel_rfl)

theorem c_mul64 {w : World} {m : Nat} (hm : m ≤ 8) : Pure Try.prog 207 [.int .u64 1, .int .u64 (m : Int)] w (.tuple #[.int .u64 0, .int .u64 (m : Int)]) := by
  refine Pure.enter Try.func207 rfl Try.ntmps207 (Nat.le_of_ble_eq_true rfl) ?_
  refine V.seq ?_
  refine V.region ?_
  refine VL.r (.inl rfl) rfl (by decide) (yr_assign (u := .int .u64 0) rfl rfl) ?_
  refine VL.r (.inl rfl) rfl (by decide) (yr_assign (u := .int .u64 0) rfl rfl) ?_
  refine VL.nil ?_
  refine VE.then_wp ?_
  refine V.seq ?_
  refine V.region ?_
  refine VL.r (.inl rfl) rfl (by decide) (yr_move rfl rfl) ?_
  refine VL.r (.inl rfl) rfl (by decide) (show YR _ _ _ (.int .u64 1) from yr_bits rfl rfl rfl (.inl ⟨rfl, by decide⟩)) ?_
  refine VL.r (.inl rfl) rfl (by decide) (yr_assign rfl rfl) ?_
  refine VL.nil ?_
  refine VE.then_wp ?_
  refine V.seq ?_
  refine V.region ?_
  refine VL.r (.inl rfl) rfl (by decide) (yr_move rfl rfl) ?_
  refine VL.r (.inl rfl) rfl (by decide) (show YR _ _ _ (.int .u64 0) from yr_shr (b := 32) rfl rfl rfl (by decide)) ?_
  refine VL.r (.inl rfl) rfl (by decide) (yr_assign rfl rfl) ?_
  refine VL.nil ?_
  refine VE.then_wp ?_
  refine V.seq ?_
  refine V.region ?_
  refine VL.r (.inl rfl) rfl (by decide) (yr_move rfl rfl) ?_
  refine VL.r (.inl rfl) rfl (by decide) (show YR _ _ _ (.int .u64 (m : Int)) from yr_bits rfl rfl rfl (.inl ⟨rfl, (by have h9 := mul8 hm; first | exact h9.1 | exact h9.2.1 | exact h9.2.2.1 | exact h9.2.2.2)⟩)) ?_
  refine VL.r (.inl rfl) rfl (by decide) (yr_assign rfl rfl) ?_
  refine VL.nil ?_
  refine VE.then_wp ?_
  refine V.seq ?_
  refine V.region ?_
  refine VL.r (.inl rfl) rfl (by decide) (yr_move rfl rfl) ?_
  refine VL.r (.inl rfl) rfl (by decide) (show YR _ _ _ (.int .u64 0) from yr_shr (b := 32) rfl rfl rfl (by have h9 := mul8 hm; first | exact h9.1 | exact h9.2.1 | exact h9.2.2.1 | exact h9.2.2.2)) ?_
  refine VL.r (.inl rfl) rfl (by decide) (yr_assign rfl rfl) ?_
  refine VL.nil ?_
  refine VE.then_wp ?_
  refine V.seq ?_
  refine V.region ?_
  refine VL.r (.inl rfl) rfl (by decide) (yr_move rfl rfl) ?_
  refine VL.r (.inl rfl) rfl (by decide) (yr_move rfl rfl) ?_
  refine VL.r (.inl rfl) rfl (by decide) (show YR _ _ _ (.int .u64 (m : Int)) from yr_int rfl rfl rfl (.inr (.inr ⟨rfl, (by have h9 := mul8 hm; first | exact h9.1 | exact h9.2.1 | exact h9.2.2.1 | exact h9.2.2.2)⟩))) ?_
  refine VL.r (.inl rfl) rfl (by decide) (yr_assign rfl rfl) ?_
  refine VL.nil ?_
  refine VE.then_wp ?_
  refine V.seq ?_
  refine V.region ?_
  refine VL.r (.inl rfl) rfl (by decide) (yr_move rfl rfl) ?_
  refine VL.r (.inl rfl) rfl (by decide) (yr_move rfl rfl) ?_
  refine VL.r (.inl rfl) rfl (by decide) (show YR _ _ _ (.int .u64 0) from yr_int rfl rfl rfl (.inr (.inr ⟨rfl, (by have h9 := mul8 hm; first | exact h9.1 | exact h9.2.1 | exact h9.2.2.1 | exact h9.2.2.2)⟩))) ?_
  refine VL.r (.inl rfl) rfl (by decide) (yr_move rfl rfl) ?_
  refine VL.r (.inl rfl) rfl (by decide) (show YR _ _ _ (.int .u64 0) from yr_shr (b := 32) rfl rfl rfl (by have h9 := mul8 hm; first | exact h9.1 | exact h9.2.1 | exact h9.2.2.1 | exact h9.2.2.2)) ?_
  refine VL.r (.inl rfl) rfl (by decide) (show YR _ _ _ (.int .u64 0) from yr_int rfl rfl rfl (.inl ⟨rfl, by decide⟩)) ?_
  refine VL.r (.inl rfl) rfl (by decide) (yr_assign rfl rfl) ?_
  refine VL.nil ?_
  refine VE.then_wp ?_
  refine V.seq ?_
  refine V.region ?_
  refine VL.r (.inl rfl) rfl (by decide) (yr_move rfl rfl) ?_
  refine VL.r (.inl rfl) rfl (by decide) (show YR _ _ _ (.int .u64 0) from yr_bits rfl rfl rfl (.inl ⟨rfl, by decide⟩)) ?_
  refine VL.r (.inl rfl) rfl (by decide) (yr_assign rfl rfl) ?_
  refine VL.nil ?_
  refine VE.then_wp ?_
  refine V.seq ?_
  refine V.region ?_
  refine VL.r (.inl rfl) rfl (by decide) (yr_move rfl rfl) ?_
  refine VL.r (.inl rfl) rfl (by decide) (show YR _ _ _ (.int .u64 0) from yr_shr (b := 32) rfl rfl rfl (by decide)) ?_
  refine VL.r (.inl rfl) rfl (by decide) (yr_assign rfl rfl) ?_
  refine VL.nil ?_
  refine VE.then_wp ?_
  refine V.seq ?_
  refine V.region ?_
  refine VL.r (.inl rfl) rfl (by decide) (yr_move rfl rfl) ?_
  refine VL.r (.inl rfl) rfl (by decide) (yr_move rfl rfl) ?_
  refine VL.r (.inl rfl) rfl (by decide) (yr_move rfl rfl) ?_
  refine VL.r (.inl rfl) rfl (by decide) (show YR _ _ _ (.int .u64 0) from yr_int rfl rfl rfl (.inr (.inr ⟨rfl, by decide⟩))) ?_
  refine VL.r (.inl rfl) rfl (by decide) (show YR _ _ _ (.int .u64 0) from yr_int rfl rfl rfl (.inl ⟨rfl, by decide⟩)) ?_
  refine VL.r (.inl rfl) rfl (by decide) (yr_assign rfl rfl) ?_
  refine VL.nil ?_
  refine VE.then_wp ?_
  refine V.seq ?_
  refine V.region ?_
  refine VL.r (.inl rfl) rfl (by decide) (yr_move rfl rfl) ?_
  refine VL.r (.inl rfl) rfl (by decide) (yr_move rfl rfl) ?_
  refine VL.r (.inl rfl) rfl (by decide) (show YR _ _ _ (.int .u64 0) from yr_int rfl rfl rfl (.inr (.inr ⟨rfl, by decide⟩))) ?_
  refine VL.r (.inl rfl) rfl (by decide) (yr_move rfl rfl) ?_
  refine VL.r (.inl rfl) rfl (by decide) (show YR _ _ _ (.int .u64 0) from yr_int rfl rfl rfl (.inl ⟨rfl, by decide⟩)) ?_
  refine VL.r (.inl rfl) rfl (by decide) (yr_move rfl rfl) ?_
  refine VL.r (.inl rfl) rfl (by decide) (show YR _ _ _ (.int .u64 0) from yr_shr (b := 32) rfl rfl rfl (by decide)) ?_
  refine VL.r (.inl rfl) rfl (by decide) (show YR _ _ _ (.int .u64 0) from yr_int rfl rfl rfl (.inl ⟨rfl, by decide⟩)) ?_
  refine VL.r (.inl rfl) rfl (by decide) (yr_assign rfl rfl) ?_
  refine VL.nil ?_
  refine VE.then_wp ?_
  refine V.seq ?_
  refine V.region ?_
  refine VL.r (.inl rfl) rfl (by decide) (yr_move rfl rfl) ?_
  refine VL.r (.inl rfl) rfl (by decide) (yr_move rfl rfl) ?_
  refine VL.r (.inl rfl) rfl (by decide) (show YR _ _ _ (.int .u64 (m : Int)) from yr_int rfl rfl rfl (.inr (.inr ⟨rfl, (by have h9 := mul8 hm; first | exact h9.1 | exact h9.2.1 | exact h9.2.2.1 | exact h9.2.2.2)⟩))) ?_
  refine VL.r (.inl rfl) rfl (by decide) (yr_assign rfl rfl) ?_
  refine VL.nil ?_
  refine VE.then_wp ?_
  refine V.ret ?_
  refine ret2 rfl rfl rfl (by nofun) (by nofun) (fun w1 hw => ?_)
  exact ⟨rfl, hw.below⟩

theorem c_mul {w : World} {m : Nat} (hm : m ≤ 8) : Pure Try.prog 167 [.int .u64 1, .int .u64 (m : Int)] w (.tuple #[.int .u64 0, .int .u64 (m : Int)]) := by
  refine Pure.enter Try.func167 rfl Try.ntmps167 (Nat.le_of_ble_eq_true rfl) ?_
  refine V.seq ?_
  refine V.region ?_
  refine VL.r (.inl rfl) rfl (by decide) (yr_assign (u := .int .u64 0) rfl rfl) ?_
  refine VL.r (.inl rfl) rfl (by decide) (yr_assign (u := .int .u64 0) rfl rfl) ?_
  refine VL.nil ?_
  refine VE.then_wp ?_
  refine V.seq ?_
  refine V.condF rfl ?_
  refine V.skip ?_
  refine VE.then_wp ?_
  refine V.seq ?_
  refine V.region ?_
  refine VL.r (.inl rfl) rfl (by decide) (yr_move rfl rfl) ?_
  refine VL.r (.inl rfl) rfl (by decide) (yr_move rfl rfl) ?_
  refine VL.q (.inl rfl) rfl (by decide) (yq_callf rfl known207_Sign (.cons rfl (.cons rfl .nil)) (fun w hw => (c_mul64 (by omega)))) ?_
  refine VL.r (.inl rfl) rfl (by decide) (yr_move rfl rfl) ?_
  refine VL.r (.inl rfl) rfl (by decide) (yr_extract rfl rfl rfl (by nofun)) ?_
  refine VL.r (.inl rfl) rfl (by decide) (yr_extract rfl rfl rfl (by nofun)) ?_
  refine VL.r (.inl rfl) rfl (by decide) (yr_assign rfl rfl) ?_
  refine VL.r (.inl rfl) rfl (by decide) (yr_assign rfl rfl) ?_
  refine VL.nil ?_
  refine VE.then_wp ?_
  refine V.seq ?_
  refine V.region ?_
  refine VL.r (.inl rfl) rfl (by decide) (yr_move rfl rfl) ?_
  refine VL.r (.inl rfl) rfl (by decide) (yr_move rfl rfl) ?_
  refine VL.r (.inl rfl) rfl (by decide) (yr_assign rfl rfl) ?_
  refine VL.r (.inl rfl) rfl (by decide) (yr_assign rfl rfl) ?_
  refine VL.nil ?_
  refine VE.then_wp ?_
  refine V.ret ?_
  refine ret2 rfl rfl rfl (by nofun) (by nofun) (fun w1 hw => ?_)
  exact ⟨rfl, hw.below⟩

theorem c_repeat {w : World} {a : Option Addr} {c m v : Nat} (hA : Cl w a (fl [v])) (h1m : 1 ≤ m) (hm : m ≤ 8) : New Try.prog 97 [.slice a 1 c, .int .i64 (m : Int)] w (fun p : Nat => .slice (some ⟨p, 0, none⟩) m m) (fun p => [⟨some ⟨p, 0, none⟩, fl (List.replicate m v), m * 1, 22⟩]) := by
  refine New.enter Try.func97 rfl Try.ntmps97 (Nat.le_of_ble_eq_true rfl) ?_
  refine V.seq ?_
  refine V.region ?_
  refine VL.r (.inl rfl) rfl (by decide) (yr_assign (u := .slice none 0 0) rfl rfl) ?_
  refine VL.nil ?_
  refine VE.then_wp ?_
  refine V.seq ?_
  refine V.seq ?_
  refine V.region ?_
  refine VL.r (.inl rfl) rfl (by decide) (yr_move rfl rfl) ?_
  refine VL.r (.inl rfl) rfl (by decide) (yr_icmp rfl (.inr (.inr (.inl rfl))) rfl rfl) ?_
  refine VL.nil ?_
  refine VE.then_wp ?_
  refine V.cond rfl (fun h1 => ?_) (fun h1 => ?_)
  · skip
    replace h1 := ic_lss h1
    omega
  · skip
    replace h1 := ic_lss' h1
    refine V.skip ?_
    refine VE.then_wp ?_
    refine V.seq ?_
    refine V.region ?_
    refine VL.r (.inl rfl) rfl (by decide) (yr_move rfl rfl) ?_
    refine VL.r (.inl rfl) rfl (by decide) (yr_len rfl Try.underlying29 rfl) ?_
    refine VL.r (.inl rfl) rfl (by decide) (show YR _ _ _ (.int .u64 1) from yr_intConv rfl Try.underlying3 Try.underlying165 rfl (by decide)) ?_
    refine VL.r (.inl rfl) rfl (by decide) (yr_move rfl rfl) ?_
    refine VL.r (.inl rfl) rfl (by decide) (show YR _ _ _ (.int .u64 (m : Int)) from yr_intConv rfl Try.underlying3 Try.underlying165 rfl (wrapu (by omega) (by omega))) ?_
    refine VL.q (.inl rfl) rfl (by decide) (yq_callf rfl known167_Sign (.cons rfl (.cons rfl .nil)) (fun w hw => (c_mul (by omega)))) ?_
    refine VL.r (.inl rfl) rfl (by decide) (yr_move rfl rfl) ?_
    refine VL.r (.inl rfl) rfl (by decide) (yr_extract rfl rfl rfl (by nofun)) ?_
    refine VL.r (.inl rfl) rfl (by decide) (yr_extract rfl rfl rfl (by nofun)) ?_
    refine VL.r (.inl rfl) rfl (by decide) (yr_assign rfl rfl) ?_
    refine VL.r (.inl rfl) rfl (by decide) (yr_assign rfl rfl) ?_
    refine VL.nil ?_
    refine VE.then_wp ?_
    refine V.seq ?_
    refine V.seq ?_
    refine V.region ?_
    refine VL.r (.inl rfl) rfl (by decide) (yr_move rfl rfl) ?_
    refine VL.r (.inl rfl) rfl (by decide) (yr_icmp rfl (.inr (.inr (.inr (.inr (.inl rfl))))) rfl rfl) ?_
    refine VL.r (.inl rfl) rfl (by decide) (yr_move rfl rfl) ?_
    refine VX.split 23 _ rfl (fun h2 => ?_) (fun h2 => ?_)
    · skip
      replace h2 := ic_gtr h2
      omega
    · skip
      replace h2 := ic_gtr' h2
      refine VL.r (.inr ⟨_, _, _, rfl, rfl, rfl⟩) rfl (by decide) (yr_move rfl rfl) ?_
      refine VL.r (.inr ⟨_, _, _, rfl, rfl, rfl⟩) rfl (by decide) (yr_icmp rfl (.inr (.inr (.inr (.inr (.inl rfl))))) rfl rfl) ?_
      refine VL.r (.inl rfl) rfl (by decide) (yr_pick_f rfl rfl rfl) ?_
      refine VL.nil ?_
      refine VE.then_wp ?_
      refine V.cond rfl (fun h3 => ?_) (fun h3 => ?_)
      · skip
        replace h3 := ic_gtr h3
        omega
      · skip
        replace h3 := ic_gtr' h3
        refine V.skip ?_
        refine VE.then_wp ?_
        refine V.seq ?_
        refine V.region ?_
        refine VL.r (.inl rfl) rfl (by decide) (yr_move rfl rfl) ?_
        refine VL.r (.inl rfl) rfl (by decide) (yr_intConv rfl Try.underlying165 Try.underlying3 rfl (wrap_in (by omega))) ?_
        refine VL.new1 (.inl rfl) rfl (by decide) (yn_makeSlicez 1 rfl rfl Try.underlying29 elt22_Sign rfl rfl rfl (by omega) (by omega)) ?_
        intro b30
        refine VL.r (.inl rfl) rfl (by decide) (yr_assign rfl rfl) ?_
        refine VL.nil ?_
        refine VE.then_wp ?_
        refine V.seq ?_
        refine V.region ?_
        refine VL.r (.inl rfl) rfl (by decide) (yr_move rfl rfl) ?_
        refine VL.r (.inl rfl) rfl (by decide) (yr_move rfl rfl) ?_
        refine VL.c (.inl rfl) rfl (by decide) (yc_copy (k := 0) (q := 1) (us' := fl (repK v m 1)) (news := fl [v]) rfl Try.underlying29 sz29_Sign rfl rfl (Nat.min_eq_left h1m) (by repeat (first | exact UpdF.here | apply UpdF.there | apply UpdF.thereS)) (by first | exact Sees.root (by assumption) | exact Sees.own (by repeat (first | exact List.mem_cons_self | exact List.mem_append_left _ (by assumption) | apply List.mem_cons_of_mem | apply List.mem_append_right)) | exact Sees.root (hR _ (by omega)) | exact Sees.own (RowsIn.mem (by repeat (first | exact RowsIn.here | exact RowsIn.last | apply RowsIn.there | apply RowsIn.thereS)) _ (by omega)) | exact Sees.own (WRowsIn.mem (by repeat (first | exact WRowsIn.here | exact WRowsIn.last | apply WRowsIn.there | apply WRowsIn.thereS)) _ (by omega))) rfl rfl (by rw [cycle_length]; simp only [List.length_cons, List.length_nil]; omega) (repK_first h1m)) ?_
        rintro ⟨⟩
        refine VL.r (.inl rfl) rfl (by decide) (yr_assign rfl rfl) ?_
        refine VL.nil ?_
        refine VE.then_wp ?_
        refine V.seq ?_
        refine V.block ?_
        refine V.loopc (G := Nat) [(7, _)] (fun (n : Nat) => 1 ≤ n ∧ n ≤ m) (fun (n : Nat) => [⟨some ⟨b30, 0, none⟩, fl (repK v m n), m * 1, 22⟩]) (fun (n : Nat) => [(8, .int .i64 (n : Int))]) (fun (n : Nat) => m - n) 1 (.cons rfl .nil) (.cons rfl .nil) ?_ ?_ ?_
        · exact (fun w hw => hw)
        · exact (by exact ⟨Nat.le_refl _, by omega⟩)
        rintro n ⟨hn1, hn⟩
        show V _ _ _ [⟨some ⟨b30, 0, none⟩, fl (repK v m n), m * 1, 22⟩] ([(8, .int .i64 (n : Int))] ++ [(7, _)]) _ _
        obtain ⟨q, hq, hq1, hq2, hq3⟩ : ∃ q, min n (m - n) = q ∧ q ≤ n ∧ q ≤ m - n ∧ (n < m → 1 ≤ q) := ⟨_, rfl, Nat.min_le_left _ _, Nat.min_le_right _ _, fun h => by rw [Nat.min_def]; split <;> omega⟩
        refine V.seq ?_
        refine V.seq ?_
        refine V.region ?_
        refine VL.r (.inl rfl) rfl (by decide) (yr_move rfl rfl) ?_
        refine VL.r (.inl rfl) rfl (by decide) (yr_move rfl rfl) ?_
        refine VL.r (.inl rfl) rfl (by decide) (yr_len rfl Try.underlying29 rfl) ?_
        refine VL.r (.inl rfl) rfl (by decide) (yr_icmp rfl (.inr (.inr (.inl rfl))) rfl rfl) ?_
        refine VL.nil ?_
        refine VE.then_wp ?_
        refine V.cond rfl (fun h4 => ?_) (fun h4 => ?_)
        · skip
          replace h4 := ic_lss h4
          refine V.skip ?_
          refine VE.then_wp ?_
          refine V.block ?_
          refine Dr.V.drawR [(0, 5), (1, 5), (2, 5), (3, 5), (4, 5), (5, 5), (6, 5), (7, 3), (8, 5), (9, 5)] [] [⟨some ⟨b30, 0, none⟩, fl (repK v m n), m * 1, 22⟩] _ mixed_Sign (by kernel_rfl) (fun w hw => hw) ?_
          refine Dr.SW.r rfl (.inl rfl) rfl (by decide) (yr_move rfl rfl) ?_
          refine Dr.SW.r rfl (.inl rfl) rfl (by decide) (yr_move rfl rfl) ?_
          refine Dr.SW.r rfl (.inl rfl) rfl (by decide) (yr_move rfl rfl) ?_
          refine Dr.SW.r rfl (.inl rfl) rfl (by decide) (yr_tail (l := n) (z := 1) rfl Try.underlying29 sz29_Sign rfl rfl (by first | rfl | omega) (by omega) (by omega) (Nat.le_refl _)) ?_
          refine Dr.SW.r rfl (.inl rfl) rfl (by decide) (yr_move rfl rfl) ?_
          refine Dr.SW.r rfl (.inl rfl) rfl (by decide) (yr_move rfl rfl) ?_
          refine Dr.SW.r rfl (.inl rfl) rfl (by decide) (yr_head (l := n) (z := 1) rfl Try.underlying29 sz29_Sign rfl rfl (by first | rfl | omega) (by omega)) ?_
          refine Dr.SW.c rfl (.inl rfl) rfl (by decide) (yc_copy (k := n * 1) (q := q) (us' := fl (repK v m (n + q))) (news := fl (List.replicate (q) v)) rfl Try.underlying29 sz29_Sign rfl rfl hq (Dr.UpdF.app (by repeat (first | exact UpdF.here | apply UpdF.there | apply UpdF.thereS))) (by rw [← repK_part (v := v) (m := m) (n := n) (q := q) (by omega) (by omega)]; exact Sees.take q (by first | exact Sees.root (by assumption) | exact Sees.own (by (try simp only [List.append_assoc, List.cons_append, List.nil_append]); repeat (first | exact List.mem_cons_self | exact List.mem_append_left _ (by assumption) | apply List.mem_cons_of_mem | apply List.mem_append_right)) | exact Sees.root (hR _ (by omega)) | exact Sees.own (RowsIn.mem (by (try simp only [List.append_assoc, List.cons_append, List.nil_append]); repeat (first | exact RowsIn.here | exact RowsIn.last | apply RowsIn.there | apply RowsIn.thereS)) _ (by omega)) | exact Sees.own (WRowsIn.mem (by (try simp only [List.append_assoc, List.cons_append, List.nil_append]); repeat (first | exact WRowsIn.here | exact WRowsIn.last | apply WRowsIn.there | apply WRowsIn.thereS)) _ (by omega)))) (by rw [fl_length, List.length_replicate]; omega) (fl_scal _) (by rw [fl_length, repK_length (by omega)]; omega) (by rw [Nat.mul_one, repK_set (by omega)])) ?_
          rintro ⟨⟩
          refine Dr.SW.r rfl (.inl rfl) rfl (by decide) (yr_int rfl rfl rfl (.inl ⟨rfl, wrap_in (by omega)⟩)) ?_
          refine Dr.SW.r rfl (.inl rfl) rfl (by decide) (yr_assign rfl rfl) ?_
          refine Dr.SW.done ?_
          refine Dr.eqO (by simp only [List.append_nil, List.append_assoc, List.cons_append, List.nil_append] <;> rfl) ?_
          refine VE.block_normal ?_
          refine VE.round (n + q) ?_ ?_ ?_ ?_ ?_
          · exact (.cons rfl .nil)
          · exact (.cons rfl .nil)
          · exact (fun w hw => hw)
          · exact ⟨by omega, by omega⟩
          · (try dsimp only); omega
        · skip
          replace h4 := ic_lss' h4
          refine V.exit ?_
          refine VE.then_exit ?_
          refine VE.then_exit ?_
          refine VE.block_here ?_
          refine VE.then_wp ?_
          refine V.seq ?_
          refine V.region ?_
          refine VL.r (.inl rfl) rfl (by decide) (yr_move rfl rfl) ?_
          refine VL.r (.inl rfl) rfl (by decide) (yr_assign rfl rfl) ?_
          refine VL.nil ?_
          refine VE.then_wp ?_
          refine V.ret ?_
          refine ret1 rfl rfl (fun w1 hw => ?_)
          obtain rfl : n = m := by omega
          rw [repK_all] at hw
          exact ⟨b30, rfl, hw.out1⟩

theorem c_specSign {w : World} {a a1 a2 : Option Addr} {c c1 c2 : Nat} {f : Nat → Option Addr × Nat} {xss : List (List Nat)} {ws gs : List Nat} {size : Nat} {rn : Int} (hA : Cl w a (hd f xss)) (hR : Rws w f xss) (hW : Cl w a1 (fl ws)) (hG : Cl w a2 (fl gs)) (hsz : bulk xss + ws.length + gs.length ≤ 1050000) : New Try.prog 32 [.agg #[.slice a xss.length c, .slice a1 ws.length c1, .slice a2 gs.length c2], .float .f32 size, .int .i64 rn] w (fun p : Option Addr × Nat => .tuple #[.slice p.1 (sgnD xss ws gs size rn).length p.2, .bool (sgnOk xss ws gs size rn)]) (fun p => [⟨p.1, fl (sgnD xss ws gs size rn), p.2 * 1, 22⟩]) := by
  refine New.enter Try.func32 rfl Try.ntmps32 (Nat.le_of_ble_eq_true rfl) ?_
  have hr : ∀ i, i < xss.length → (xss.getD i []).length ≤ 1050000 := fun i hi => by have := bulk_row hi; omega
  have hxl : xss.length ≤ bulk xss := by unfold bulk; omega
  refine V.seq ?_
  refine V.region ?_
  refine VL.new1 (.inl rfl) rfl (by decide) (yn_box rfl rfl (.inr ⟨rfl, rfl⟩)) ?_
  intro b3
  refine VL.r (.inl rfl) rfl (by decide) (yr_assign (u := .slice none 0 0) rfl rfl) ?_
  refine VL.r (.inl rfl) rfl (by decide) (yr_assign (u := .bool false) rfl rfl) ?_
  refine VL.nil ?_
  refine VE.then_wp ?_
  refine V.seq ?_
  refine V.seq ?_
  refine V.region ?_
  refine VL.q (.inl rfl) rfl (by decide) (yq_callf rfl known78_Sign (.cons rfl .nil) (fun w hw => (c_l07Is (by first | exact Sees.root (by assumption) w hw | exact Sees.own (by repeat (first | exact List.mem_cons_self | exact List.mem_append_left _ (by assumption) | apply List.mem_cons_of_mem | apply List.mem_append_right)) w hw) (by first | exact Sees.root (by assumption) w hw | exact Sees.own (by repeat (first | exact List.mem_cons_self | exact List.mem_append_left _ (by assumption) | apply List.mem_cons_of_mem | apply List.mem_append_right)) w hw) (by first | exact Rws.root (by assumption) hw | exact Rws.own (by repeat (first | exact RowsIn.here | exact RowsIn.last | apply RowsIn.there | apply RowsIn.thereS)) hw) (by first | exact Sees.root (by assumption) w hw | exact Sees.own (by repeat (first | exact List.mem_cons_self | exact List.mem_append_left _ (by assumption) | apply List.mem_cons_of_mem | apply List.mem_append_right)) w hw) (by first | exact Sees.root (by assumption) w hw | exact Sees.own (by repeat (first | exact List.mem_cons_self | exact List.mem_append_left _ (by assumption) | apply List.mem_cons_of_mem | apply List.mem_append_right)) w hw) (by omega)))) ?_
  refine VL.r (.inl rfl) rfl (by decide) (yr_not rfl rfl) ?_
  refine VL.r (.inl rfl) rfl (by decide) (yr_move rfl rfl) ?_
  refine VX.split 13 _ rfl (fun h1 => ?_) (fun h1 => ?_)
  · skip
    replace h1 := bnot_t h1
    refine VL.no rfl rfl rfl rfl rfl (by decide) ?_
    refine VL.no rfl rfl rfl rfl rfl (by decide) ?_
    refine VL.no rfl rfl rfl rfl rfl (by decide) ?_
    refine VL.r (.inl rfl) rfl (by decide) (yr_pick_t (u := .bool true) rfl rfl rfl) ?_
    refine VL.r (.inl rfl) rfl (by decide) (yr_move rfl rfl) ?_
    refine VL.no rfl rfl rfl rfl rfl (by decide) ?_
    refine VL.no rfl rfl rfl rfl rfl (by decide) ?_
    refine VL.no rfl rfl rfl rfl rfl (by decide) ?_
    refine VL.r (.inl rfl) rfl (by decide) (yr_pick_t (u := .bool true) rfl rfl rfl) ?_
    refine VL.nil ?_
    refine VE.then_wp ?_
    refine V.condT rfl ?_
    refine V.seq ?_
    refine V.region ?_
    refine VL.r (.inl rfl) rfl (by decide) (yr_assign (u := .slice none 0 0) rfl rfl) ?_
    refine VL.r (.inl rfl) rfl (by decide) (yr_assign (u := .bool false) rfl rfl) ?_
    refine VL.nil ?_
    refine VE.then_wp ?_
    refine V.ret ?_
    refine VE.then_ret ?_
    refine ret2 rfl rfl rfl (by nofun) (by nofun) (fun w1 hw => ?_)
    first
      | (have hs : sgnOk xss ws gs size rn = true := sgnOk_yes hva (by assumption) hrn
         obtain rfl : k = rn.toNat := by omega
         have he : (sgnR (fun y => sqK xss ws gs y xss.length) (sgn0 xss size) rn.toNat) = sgnD xss ws gs size rn := (sgnD_yes hs).symm
         rw [hs, ← he]
         exact ⟨(p, pc), rfl, hw.below, fun e he => (by rw [List.mem_singleton] at he; subst he; exact hw.ents _ (List.mem_append_left _ (by assumption))), List.pairwise_singleton _ _⟩)
      | (have hs : sgnOk xss ws gs size rn = false := by first | exact sgnOk_no1 (by assumption) | exact sgnOk_no2 (by assumption) | exact sgnOk_no3 (by assumption)
         exact ⟨(none, 0), by rw [sgnD_no hs, hs]; rfl, hw.below, by rw [sgnD_no hs]; simp [fl, Ent.at], List.pairwise_singleton _ _⟩)
  · skip
    replace h1 := bnot_f h1
    have hva := h1
    obtain ⟨v1, v2, v3, v4, v5, v6, v7, v8⟩ := valid_is hva
    refine VL.r (.inr ⟨_, _, _, rfl, rfl, rfl⟩) rfl (by decide) (yr_move rfl rfl) ?_
    refine VL.q (.inr ⟨_, _, _, rfl, rfl, rfl⟩) rfl (by decide) (yq_callf rfl known92_Sign (.cons rfl .nil) (fun w hw => c_l03Above _)) ?_
    refine VL.r (.inr ⟨_, _, _, rfl, rfl, rfl⟩) rfl (by decide) (yr_not rfl rfl) ?_
    refine VL.r (.inl rfl) rfl (by decide) (yr_pick_f rfl rfl rfl) ?_
    refine VL.r (.inl rfl) rfl (by decide) (yr_move rfl rfl) ?_
    refine VX.split 18 _ rfl (fun h3 => ?_) (fun h3 => ?_)
    · skip
      replace h3 := bnot_t h3
      refine VL.no rfl rfl rfl rfl rfl (by decide) ?_
      refine VL.no rfl rfl rfl rfl rfl (by decide) ?_
      refine VL.no rfl rfl rfl rfl rfl (by decide) ?_
      refine VL.r (.inl rfl) rfl (by decide) (yr_pick_t (u := .bool true) rfl rfl rfl) ?_
      refine VL.nil ?_
      refine VE.then_wp ?_
      refine V.condT rfl ?_
      refine V.seq ?_
      refine V.region ?_
      refine VL.r (.inl rfl) rfl (by decide) (yr_assign (u := .slice none 0 0) rfl rfl) ?_
      refine VL.r (.inl rfl) rfl (by decide) (yr_assign (u := .bool false) rfl rfl) ?_
      refine VL.nil ?_
      refine VE.then_wp ?_
      refine V.ret ?_
      refine VE.then_ret ?_
      refine ret2 rfl rfl rfl (by nofun) (by nofun) (fun w1 hw => ?_)
      first
        | (have hs : sgnOk xss ws gs size rn = true := sgnOk_yes hva (by assumption) hrn
           obtain rfl : k = rn.toNat := by omega
           have he : (sgnR (fun y => sqK xss ws gs y xss.length) (sgn0 xss size) rn.toNat) = sgnD xss ws gs size rn := (sgnD_yes hs).symm
           rw [hs, ← he]
           exact ⟨(p, pc), rfl, hw.below, fun e he => (by rw [List.mem_singleton] at he; subst he; exact hw.ents _ (List.mem_append_left _ (by assumption))), List.pairwise_singleton _ _⟩)
        | (have hs : sgnOk xss ws gs size rn = false := by first | exact sgnOk_no1 (by assumption) | exact sgnOk_no2 (by assumption) | exact sgnOk_no3 (by assumption)
           exact ⟨(none, 0), by rw [sgnD_no hs, hs]; rfl, hw.below, by rw [sgnD_no hs]; simp [fl, Ent.at], List.pairwise_singleton _ _⟩)
    · skip
      replace h3 := bnot_f h3
      refine VL.r (.inr ⟨_, _, _, rfl, rfl, rfl⟩) rfl (by decide) (yr_move rfl rfl) ?_
      refine VL.q (.inr ⟨_, _, _, rfl, rfl, rfl⟩) rfl (by decide) (yq_callf rfl known79_Sign (.cons rfl (.cons rfl (.cons rfl .nil))) (fun w hw => c_l00In)) ?_
      refine VL.r (.inr ⟨_, _, _, rfl, rfl, rfl⟩) rfl (by decide) (yr_not rfl rfl) ?_
      refine VL.r (.inl rfl) rfl (by decide) (yr_pick_f rfl rfl rfl) ?_
      refine VL.nil ?_
      refine VE.then_wp ?_
      refine V.cond rfl (fun h5 => ?_) (fun h5 => ?_)
      · skip
        replace h5 := bnot_t h5
        refine V.seq ?_
        refine V.region ?_
        refine VL.r (.inl rfl) rfl (by decide) (yr_assign (u := .slice none 0 0) rfl rfl) ?_
        refine VL.r (.inl rfl) rfl (by decide) (yr_assign (u := .bool false) rfl rfl) ?_
        refine VL.nil ?_
        refine VE.then_wp ?_
        refine V.ret ?_
        refine VE.then_ret ?_
        refine ret2 rfl rfl rfl (by nofun) (by nofun) (fun w1 hw => ?_)
        first
          | (have hs : sgnOk xss ws gs size rn = true := sgnOk_yes hva (by assumption) hrn
             obtain rfl : k = rn.toNat := by omega
             have he : (sgnR (fun y => sqK xss ws gs y xss.length) (sgn0 xss size) rn.toNat) = sgnD xss ws gs size rn := (sgnD_yes hs).symm
             rw [hs, ← he]
             exact ⟨(p, pc), rfl, hw.below, fun e he => (by rw [List.mem_singleton] at he; subst he; exact hw.ents _ (List.mem_append_left _ (by assumption))), List.pairwise_singleton _ _⟩)
          | (have hs : sgnOk xss ws gs size rn = false := by first | exact sgnOk_no1 (by assumption) | exact sgnOk_no2 (by assumption) | exact sgnOk_no3 (by assumption)
             exact ⟨(none, 0), by rw [sgnD_no hs, hs]; rfl, hw.below, by rw [sgnD_no hs]; simp [fl, Ent.at], List.pairwise_singleton _ _⟩)
      · skip
        replace h5 := bnot_f h5
        have hrn := of_decide_eq_true h5
        refine V.skip ?_
        refine VE.then_wp ?_
        refine V.seq ?_
        refine V.region ?_
        refine VL.new1 (.inl rfl) rfl (by decide) (yn_lit rfl Try.underlying29 elt22_Sign rfl (by decide) .nil (by first | (simp; done) | (simp [cn, cn1, cn0]; done)) rfl rfl rfl) ?_
        intro b23
        refine VL.r (.inl rfl) rfl (by decide) (yr_assign rfl rfl) ?_
        refine VL.nil ?_
        refine VE.then_wp ?_
        refine V.seq ?_
        refine V.seq ?_
        refine V.region ?_
        refine VL.r (.inl rfl) rfl (by decide) (yr_fieldAddr rfl Try.underlying48 rfl rfl sz44_Sign (by decide) rfl) ?_
        refine VL.q (.inl rfl) rfl (by decide) (yq_load rfl fb44_Sign rfl (by first | exact Sees.root (by assumption) | exact Sees.own (by repeat (first | exact List.mem_cons_self | exact List.mem_append_left _ (by assumption) | apply List.mem_cons_of_mem | apply List.mem_append_right)) | exact Sees.root (hR _ (by omega)) | exact Sees.own (RowsIn.mem (by repeat (first | exact RowsIn.here | exact RowsIn.last | apply RowsIn.there | apply RowsIn.thereS)) _ (by omega)) | exact Sees.own (WRowsIn.mem (by repeat (first | exact WRowsIn.here | exact WRowsIn.last | apply WRowsIn.there | apply WRowsIn.thereS)) _ (by omega))) rfl) ?_
        refine VL.q (.inl rfl) rfl (by decide) (yq_idx (k := 0) rfl Try.underlying44 sz29_Sign rfl rfl (by first | exact Sees.root (by assumption) | exact Sees.own (by repeat (first | exact List.mem_cons_self | exact List.mem_append_left _ (by assumption) | apply List.mem_cons_of_mem | apply List.mem_append_right)) | exact Sees.root (hR _ (by omega)) | exact Sees.own (RowsIn.mem (by repeat (first | exact RowsIn.here | exact RowsIn.last | apply RowsIn.there | apply RowsIn.thereS)) _ (by omega)) | exact Sees.own (WRowsIn.mem (by repeat (first | exact WRowsIn.here | exact WRowsIn.last | apply WRowsIn.there | apply WRowsIn.thereS)) _ (by omega))) (by first | rfl | omega | (push_cast; rfl) | (push_cast; omega) | exact tmod_nat _ _) (by first | exact fl_length _ | exact hd_length _ _ | (rw [fl_length])) (by omega)) ?_
        refine VL.q (.inl rfl) rfl (by decide) (yq_loadH rfl fb29_Sign rfl (by first | exact Sees.root (by assumption) | exact Sees.own (by repeat (first | exact List.mem_cons_self | exact List.mem_append_left _ (by assumption) | apply List.mem_cons_of_mem | apply List.mem_append_right)) | exact Sees.root (hR _ (by omega)) | exact Sees.own (RowsIn.mem (by repeat (first | exact RowsIn.here | exact RowsIn.last | apply RowsIn.there | apply RowsIn.thereS)) _ (by omega)) | exact Sees.own (WRowsIn.mem (by repeat (first | exact WRowsIn.here | exact WRowsIn.last | apply WRowsIn.there | apply WRowsIn.thereS)) _ (by omega))) (by omega)) ?_
        refine VL.r (.inl rfl) rfl (by decide) (yr_len rfl Try.underlying29 rfl) ?_
        refine VL.r (.inl rfl) rfl (by decide) (yr_move (u := .int .i64 0) rfl rfl) ?_
        refine VL.nil ?_
        refine VE.then_wp ?_
        refine V.block ?_
        refine V.loopc (G := Nat × (Option Addr) × Nat) [(1, _), (2, _), (3, _), (28, _)] (fun ⟨i, ar, cr⟩ => i ≤ (xss.getD 0 []).length) (fun ⟨i, ar, cr⟩ => [⟨ar, fl (List.replicate i (fneg .f32 size)), cr * 1, 22⟩, ⟨some ⟨b3, 0, none⟩, [.slice a xss.length c, .slice a1 ws.length c1, .slice a2 gs.length c2], 3, 48⟩]) (fun ⟨i, ar, cr⟩ => [(8, .slice ar i cr), (29, .int .i64 (i : Int))]) (fun ⟨i, ar, cr⟩ => (xss.getD 0 []).length - i) (0, some ⟨b23, 0, none⟩, 0) (.cons rfl (.cons rfl (.cons rfl (.cons rfl .nil)))) (.cons rfl (.cons rfl .nil)) ?_ ?_ ?_
        · exact (fun w hw => hw)
        · exact (by omega)
        rintro ⟨i, ar, cr⟩ hi
        show V _ _ _ [⟨ar, fl (List.replicate i (fneg .f32 size)), cr * 1, 22⟩, ⟨some ⟨b3, 0, none⟩, [.slice a xss.length c, .slice a1 ws.length c1, .slice a2 gs.length c2], 3, 48⟩] ([(8, .slice ar i cr), (29, .int .i64 (i : Int))] ++ [(1, _), (2, _), (3, _), (28, _)]) _ _
        replace hi : i ≤ (xss.getD 0 []).length := hi
        refine V.seq ?_
        refine V.region ?_
        refine VL.r (.inl rfl) rfl (by decide) (yr_icmp rfl (.inr (.inr (.inl rfl))) rfl rfl) ?_
        refine VL.nil ?_
        refine VE.then_wp ?_
        refine V.seq ?_
        refine V.cond rfl (fun h6 => ?_) (fun h6 => ?_)
        · skip
          replace h6 := ic_lss h6
          refine V.skip ?_
          refine VE.then_wp ?_
          refine V.seq ?_
          refine V.block ?_
          refine V.region ?_
          refine VL.r (.inl rfl) rfl (by decide) (yr_move rfl rfl) ?_
          refine VL.r (.inl rfl) rfl (by decide) (yr_move rfl rfl) ?_
          refine VL.r (.inl rfl) rfl (by decide) (yr_fneg rfl rfl) ?_
          refine VL.new1 (.inl rfl) rfl (by decide) (yn_lit rfl Try.underlying29 elt22_Sign rfl (by decide) (.cons rfl .nil) (by first | (simp; done) | (simp [cn, cn1, cn0]; done)) rfl rfl rfl) ?_
          intro b34
          refine VL.c (.inl rfl) rfl (by decide) (yc_appendz 1 rfl rfl Try.underlying29 elt22_Sign rfl rfl (by repeat (first | exact UpdF.here | apply UpdF.there | apply UpdF.thereS)) (by first | exact Sees.root (by assumption) | exact Sees.own (by repeat (first | exact List.mem_cons_self | exact List.mem_append_left _ (by assumption) | apply List.mem_cons_of_mem | apply List.mem_append_right)) | exact Sees.root (hR _ (by omega)) | exact Sees.own (RowsIn.mem (by repeat (first | exact RowsIn.here | exact RowsIn.last | apply RowsIn.there | apply RowsIn.thereS)) _ (by omega)) | exact Sees.own (WRowsIn.mem (by repeat (first | exact WRowsIn.here | exact WRowsIn.last | apply WRowsIn.there | apply WRowsIn.thereS)) _ (by omega))) rfl (by rw [fl_length, List.length_replicate]; omega) rfl (by first | rfl | exact fl_scal _) (by first | rfl | exact fl_scal _) (by omega) (by omega)) ?_
          rintro ⟨a35, c35⟩
          refine VL.r (.inl rfl) rfl (by decide) (yr_assign rfl rfl) ?_
          refine VL.nil ?_
          refine VE.block_normal ?_
          refine VE.then_wp ?_
          refine V.region ?_
          refine VL.r (.inl rfl) rfl (by decide) (yr_int rfl rfl rfl (.inl ⟨rfl, wrap_in (by omega)⟩)) ?_
          refine VL.r (.inl rfl) rfl (by decide) (yr_move rfl rfl) ?_
          refine VL.nil ?_
          refine VE.round (i + 1, a35, c35) ?_ ?_ ?_ ?_ ?_
          · exact (.cons rfl (.cons rfl .nil))
          · exact (.cons rfl (.cons rfl (.cons rfl (.cons rfl .nil))))
          · exact (fun w hw => by have h9 := hw.sub (List.sublist_cons_self _ _); rw [fl_snoc, ← List.replicate_succ'] at h9; exact h9)
          · omega
          · (try dsimp only); omega
        · skip
          replace h6 := ic_lss' h6
          refine V.exit ?_
          refine VE.then_exit ?_
          refine VE.then_exit ?_
          refine VE.block_here ?_
          refine VE.then_wp ?_
          refine V.seq ?_
          refine V.block ?_
          refine V.loopc (G := Nat × (Option Addr) × Nat × (List Ent)) [(3, _)] (fun ⟨k, p, pc, L⟩ => k ≤ rn.toNat ∧ (⟨p, fl (sgnR (fun y => sqK xss ws gs y xss.length) (sgn0 xss size) k), pc * 1, 22⟩ : Ent) ∈ L) (fun ⟨k, p, pc, L⟩ => (L ++ [⟨some ⟨b3, 0, none⟩, [.slice a xss.length c, .slice a1 ws.length c1, .slice a2 gs.length c2], 3, 48⟩])) (fun ⟨k, p, pc, L⟩ => [(2, .int .i64 (rn - (k : Int))), (8, .slice p (sgnR (fun y => sqK xss ws gs y xss.length) (sgn0 xss size) k).length pc)]) (fun ⟨k, p, pc, L⟩ => rn.toNat - k) (0, ar, cr, [⟨ar, fl (sgn0 xss size), cr * 1, 22⟩]) (.cons rfl .nil) (.cons (congrArg (fun i => some (Value.int .i64 i)) (by omega)) (.cons (congrArg (fun n => some (Value.slice _ n _)) (by first | rfl | (rw [sgnR, sgn0_length]; done) | (rw [sgnR, sgn0_length]; omega))) .nil)) ?_ ?_ ?_
          · exact (fun w hw => by have hi9 : i = (xss.getD 0 []).length := (by omega); subst hi9; exact hw)
          · exact (by exact ⟨by omega, by have : i = (xss.getD 0 []).length := (by omega); subst this; exact List.mem_cons_self⟩)
          rintro ⟨k, p, pc, L⟩ ⟨hk, hL⟩
          show V _ _ _ (L ++ [⟨some ⟨b3, 0, none⟩, [.slice a xss.length c, .slice a1 ws.length c1, .slice a2 gs.length c2], 3, 48⟩]) ([(2, .int .i64 (rn - (k : Int))), (8, .slice p (sgnR (fun y => sqK xss ws gs y xss.length) (sgn0 xss size) k).length pc)] ++ [(3, _)]) _ _
          have hKl : (sgnR (fun y => sqK xss ws gs y xss.length) (sgn0 xss size) k).length = (xss.getD 0 []).length := (sgnR_length k).trans sgn0_length
          refine V.seq ?_
          refine V.seq ?_
          refine V.region ?_
          refine VL.r (.inl rfl) rfl (by decide) (yr_move rfl rfl) ?_
          refine VL.r (.inl rfl) rfl (by decide) (yr_icmp rfl (.inr (.inr (.inr (.inr (.inl rfl))))) rfl rfl) ?_
          refine VL.nil ?_
          refine VE.then_wp ?_
          refine V.cond rfl (fun h7 => ?_) (fun h7 => ?_)
          · skip
            replace h7 := ic_gtr h7
            refine V.skip ?_
            refine VE.then_wp ?_
            refine V.seq ?_
            refine V.block ?_
            refine V.seq ?_
            refine V.region ?_
            refine VL.r (.inl rfl) rfl (by decide) (yr_move rfl rfl) ?_
            refine VL.r (.inl rfl) rfl (by decide) (yr_len rfl Try.underlying29 rfl) ?_
            refine VL.r (.inl rfl) rfl (by decide) (yr_move (u := .int .i64 0) rfl rfl) ?_
            refine VL.nil ?_
            refine VE.then_wp ?_
            refine V.block ?_
            refine V.loopc (G := Nat × (Option Addr) × Nat × (List Ent)) [(2, _), (3, _), (42, _)] (fun ⟨j, p1, q1, L1⟩ => j ≤ (sgnR (fun y => sqK xss ws gs y xss.length) (sgn0 xss size) k).length ∧ (⟨p1, fl (sgnJ (fun y => sqK xss ws gs y xss.length) (sgnR (fun y => sqK xss ws gs y xss.length) (sgn0 xss size) k) j), q1 * 1, 22⟩ : Ent) ∈ L1 ∧ (⟨p, fl (sgnR (fun y => sqK xss ws gs y xss.length) (sgn0 xss size) k), pc * 1, 22⟩ : Ent) ∈ L1) (fun ⟨j, p1, q1, L1⟩ => (L1 ++ [⟨some ⟨b3, 0, none⟩, [.slice a xss.length c, .slice a1 ws.length c1, .slice a2 gs.length c2], 3, 48⟩])) (fun ⟨j, p1, q1, L1⟩ => [(8, .slice p1 (sgnJ (fun y => sqK xss ws gs y xss.length) (sgnR (fun y => sqK xss ws gs y xss.length) (sgn0 xss size) k) j).length q1), (43, .int .i64 (j : Int))]) (fun ⟨j, p1, q1, L1⟩ => (sgnR (fun y => sqK xss ws gs y xss.length) (sgn0 xss size) k).length - j) (0, p, pc, L) (.cons rfl (.cons rfl (.cons rfl .nil))) (.cons rfl (.cons rfl .nil)) ?_ ?_ ?_
            · exact (fun w hw => hw)
            · exact (by exact ⟨by omega, hL, hL⟩)
            rintro ⟨j, p1, q1, L1⟩ ⟨hj, hC, hB0⟩
            show V _ _ _ (L1 ++ [⟨some ⟨b3, 0, none⟩, [.slice a xss.length c, .slice a1 ws.length c1, .slice a2 gs.length c2], 3, 48⟩]) ([(8, .slice p1 (sgnJ (fun y => sqK xss ws gs y xss.length) (sgnR (fun y => sqK xss ws gs y xss.length) (sgn0 xss size) k) j).length q1), (43, .int .i64 (j : Int))] ++ [(2, _), (3, _), (42, _)]) _ _
            have hJl : (sgnJ (fun y => sqK xss ws gs y xss.length) (sgnR (fun y => sqK xss ws gs y xss.length) (sgn0 xss size) k) j).length = (xss.getD 0 []).length := ((sgnJ_facts j).1).trans hKl
            have hJg : (sgnJ (fun y => sqK xss ws gs y xss.length) (sgnR (fun y => sqK xss ws gs y xss.length) (sgn0 xss size) k) j).getD j 0 = (sgnR (fun y => sqK xss ws gs y xss.length) (sgn0 xss size) k).getD j 0 := (sgnJ_facts j).2 j (Nat.le_refl _)
            have hfJ : fitsD xss ws gs (sgnJ (fun y => sqK xss ws gs y xss.length) (sgnR (fun y => sqK xss ws gs y xss.length) (sgn0 xss size) k) j) = true := fits_sgn hva hJl
            have hfS : fitsD xss ws gs (sgnT (sgnJ (fun y => sqK xss ws gs y xss.length) (sgnR (fun y => sqK xss ws gs y xss.length) (sgn0 xss size) k) j) j) = true := fits_sgn hva (sgnT_length.trans hJl)
            refine V.seq ?_
            refine V.region ?_
            refine VL.r (.inl rfl) rfl (by decide) (yr_icmp rfl (.inr (.inr (.inl rfl))) rfl rfl) ?_
            refine VL.nil ?_
            refine VE.then_wp ?_
            refine V.seq ?_
            refine V.cond rfl (fun h8 => ?_) (fun h8 => ?_)
            · skip
              replace h8 := ic_lss h8
              refine V.skip ?_
              refine VE.then_wp ?_
              refine V.seq ?_
              refine V.block ?_
              refine V.seq ?_
              refine V.region ?_
              refine VL.r (.inl rfl) rfl (by decide) (yr_move rfl rfl) ?_
              refine VL.r (.inl rfl) rfl (by decide) (yr_assign rfl rfl) ?_
              refine VL.nil ?_
              refine VE.then_wp ?_
              refine V.seq ?_
              refine V.region ?_
              refine VL.r (.inl rfl) rfl (by decide) (yr_move rfl rfl) ?_
              refine VL.r (.inl rfl) rfl (by decide) (yr_move rfl rfl) ?_
              refine VL.r (.inl rfl) rfl (by decide) (yr_move rfl rfl) ?_
              refine VL.r (.inl rfl) rfl (by decide) (yr_move rfl rfl) ?_
              refine VL.q (.inl rfl) rfl (by decide) (yq_idx (k := j) rfl Try.underlying29 sz22_Sign rfl rfl (by first | exact Sees.root (by assumption) | exact Sees.own (by repeat (first | exact List.mem_cons_self | exact List.mem_append_left _ (by assumption) | apply List.mem_cons_of_mem | apply List.mem_append_right)) | exact Sees.root (hR _ (by omega)) | exact Sees.own (RowsIn.mem (by repeat (first | exact RowsIn.here | exact RowsIn.last | apply RowsIn.there | apply RowsIn.thereS)) _ (by omega)) | exact Sees.own (WRowsIn.mem (by repeat (first | exact WRowsIn.here | exact WRowsIn.last | apply WRowsIn.there | apply WRowsIn.thereS)) _ (by omega))) (by first | rfl | omega | (push_cast; rfl) | (push_cast; omega) | exact tmod_nat _ _) (by first | exact fl_length _ | exact hd_length _ _ | (rw [fl_length])) (by omega)) ?_
              refine VL.q (.inl rfl) rfl (by decide) (yq_loadF rfl fb22_Sign rfl (by first | exact Sees.root (by assumption) | exact Sees.own (by repeat (first | exact List.mem_cons_self | exact List.mem_append_left _ (by assumption) | apply List.mem_cons_of_mem | apply List.mem_append_right)) | exact Sees.root (hR _ (by omega)) | exact Sees.own (RowsIn.mem (by repeat (first | exact RowsIn.here | exact RowsIn.last | apply RowsIn.there | apply RowsIn.thereS)) _ (by omega)) | exact Sees.own (WRowsIn.mem (by repeat (first | exact WRowsIn.here | exact WRowsIn.last | apply WRowsIn.there | apply WRowsIn.thereS)) _ (by omega))) (by omega)) ?_
              refine VL.r (.inl rfl) rfl (by decide) (yr_fneg rfl rfl) ?_
              refine VL.new1 (.inl rfl) rfl (by decide) (yn_callf rfl known93_Sign (.cons rfl (.cons rfl (.cons rfl .nil))) (fun w hw => (c_l07With (xs := (sgnJ (fun y => sqK xss ws gs y xss.length) (sgnR (fun y => sqK xss ws gs y xss.length) (sgn0 xss size) k) j)) (j := j) (by first | exact Sees.root (by assumption) w hw | exact Sees.own (by repeat (first | exact List.mem_cons_self | exact List.mem_append_left _ (by assumption) | apply List.mem_cons_of_mem | apply List.mem_append_right)) w hw) (by omega) (by omega)))) ?_
              rintro ⟨a53, c53⟩
              refine VL.r (.inl rfl) rfl (by decide) (yr_assign rfl rfl) ?_
              refine VL.nil ?_
              refine VE.then_wp ?_
              refine V.seq ?_
              refine V.region ?_
              refine VL.r (.inl rfl) rfl (by decide) (yr_move rfl rfl) ?_
              refine VL.q (.inl rfl) rfl (by decide) (yq_callf rfl known94_Sign (.cons rfl (.cons rfl .nil)) (fun w hw => (c_l07Square (x := sgnT (sgnJ (fun y => sqK xss ws gs y xss.length) (sgnR (fun y => sqK xss ws gs y xss.length) (sgn0 xss size) k) j) j) (by first | exact Sees.root (by assumption) w hw | exact Sees.own (by repeat (first | exact List.mem_cons_self | exact List.mem_append_left _ (by assumption) | apply List.mem_cons_of_mem | apply List.mem_append_right)) w hw) (by first | exact Sees.root (by assumption) w hw | exact Sees.own (by repeat (first | exact List.mem_cons_self | exact List.mem_append_left _ (by assumption) | apply List.mem_cons_of_mem | apply List.mem_append_right)) w hw) (by first | exact Rws.root (by assumption) hw | exact Rws.own (by repeat (first | exact RowsIn.here | exact RowsIn.last | apply RowsIn.there | apply RowsIn.thereS)) hw) (by first | exact Sees.root (by assumption) w hw | exact Sees.own (by repeat (first | exact List.mem_cons_self | exact List.mem_append_left _ (by assumption) | apply List.mem_cons_of_mem | apply List.mem_append_right)) w hw) (by first | exact Sees.root (by assumption) w hw | exact Sees.own (by repeat (first | exact List.mem_cons_self | exact List.mem_append_left _ (by assumption) | apply List.mem_cons_of_mem | apply List.mem_append_right)) w hw) (by first | exact Sees.root (by assumption) w hw | exact Sees.own (by repeat (first | exact List.mem_cons_self | exact List.mem_append_left _ (by assumption) | apply List.mem_cons_of_mem | apply List.mem_append_right)) w hw) (by omega) hfS))) ?_
              refine VL.r (.inl rfl) rfl (by decide) (yr_move rfl rfl) ?_
              refine VL.q (.inl rfl) rfl (by decide) (yq_callf rfl known94_Sign (.cons rfl (.cons rfl .nil)) (fun w hw => (c_l07Square (x := (sgnJ (fun y => sqK xss ws gs y xss.length) (sgnR (fun y => sqK xss ws gs y xss.length) (sgn0 xss size) k) j)) (by first | exact Sees.root (by assumption) w hw | exact Sees.own (by repeat (first | exact List.mem_cons_self | exact List.mem_append_left _ (by assumption) | apply List.mem_cons_of_mem | apply List.mem_append_right)) w hw) (by first | exact Sees.root (by assumption) w hw | exact Sees.own (by repeat (first | exact List.mem_cons_self | exact List.mem_append_left _ (by assumption) | apply List.mem_cons_of_mem | apply List.mem_append_right)) w hw) (by first | exact Rws.root (by assumption) hw | exact Rws.own (by repeat (first | exact RowsIn.here | exact RowsIn.last | apply RowsIn.there | apply RowsIn.thereS)) hw) (by first | exact Sees.root (by assumption) w hw | exact Sees.own (by repeat (first | exact List.mem_cons_self | exact List.mem_append_left _ (by assumption) | apply List.mem_cons_of_mem | apply List.mem_append_right)) w hw) (by first | exact Sees.root (by assumption) w hw | exact Sees.own (by repeat (first | exact List.mem_cons_self | exact List.mem_append_left _ (by assumption) | apply List.mem_cons_of_mem | apply List.mem_append_right)) w hw) (by first | exact Sees.root (by assumption) w hw | exact Sees.own (by repeat (first | exact List.mem_cons_self | exact List.mem_append_left _ (by assumption) | apply List.mem_cons_of_mem | apply List.mem_append_right)) w hw) (by omega) hfJ))) ?_
              refine VL.r (.inl rfl) rfl (by decide) (yr_fcmp rfl (.inr (.inr (.inl rfl))) rfl rfl) ?_
              refine VL.nil ?_
              refine VE.then_wp ?_
              refine V.cond rfl (fun h9 => ?_) (fun h9 => ?_)
              · skip
                refine V.region ?_
                refine VL.r (.inl rfl) rfl (by decide) (yr_move rfl rfl) ?_
                refine VL.r (.inl rfl) rfl (by decide) (yr_assign rfl rfl) ?_
                refine VL.nil ?_
                refine VE.block_normal ?_
                refine VE.then_wp ?_
                refine V.region ?_
                refine VL.r (.inl rfl) rfl (by decide) (yr_int rfl rfl rfl (.inl ⟨rfl, wrap_in (by omega)⟩)) ?_
                refine VL.r (.inl rfl) rfl (by decide) (yr_move rfl rfl) ?_
                refine VL.nil ?_
                refine VE.round (j + 1, a53, c53, ⟨a53, fl (sgnT (sgnJ (fun y => sqK xss ws gs y xss.length) (sgnR (fun y => sqK xss ws gs y xss.length) (sgn0 xss size) k) j) j), c53 * 1, 22⟩ :: L1) ?_ ?_ ?_ ?_ ?_
                · exact (.cons (congrArg (fun n => some (Value.slice _ n _)) (by first | (rw [sgnJ, sgnN_yes (by assumption)]; done) | (rw [sgnJ, sgnN_yes (by assumption)]; rfl) | (rw [sgnJ, sgnN_no (by assumption)]))) (.cons rfl .nil))
                · exact (.cons rfl (.cons rfl (.cons rfl .nil)))
                · exact (fun w hw => hw)
                · exact ⟨by omega, (by rw [sgnJ, sgnN_yes (by assumption)]; exact List.mem_cons_self), List.mem_cons_of_mem _ hB0⟩
                · (try dsimp only); omega
              · skip
                refine V.skip ?_
                refine VE.block_normal ?_
                refine VE.then_wp ?_
                refine V.region ?_
                refine VL.r (.inl rfl) rfl (by decide) (yr_int rfl rfl rfl (.inl ⟨rfl, wrap_in (by omega)⟩)) ?_
                refine VL.r (.inl rfl) rfl (by decide) (yr_move rfl rfl) ?_
                refine VL.nil ?_
                refine VE.round (j + 1, p1, q1, L1) ?_ ?_ ?_ ?_ ?_
                · exact (.cons (congrArg (fun n => some (Value.slice _ n _)) (by first | (rw [sgnJ, sgnN_yes (by assumption)]; done) | (rw [sgnJ, sgnN_yes (by assumption)]; rfl) | (rw [sgnJ, sgnN_no (by assumption)]))) (.cons rfl .nil))
                · exact (.cons rfl (.cons rfl (.cons rfl .nil)))
                · exact (fun w hw => hw.sub (List.sublist_cons_self _ _))
                · exact ⟨by omega, (by rw [sgnJ, sgnN_no (by assumption)]; exact hC), hB0⟩
                · (try dsimp only); omega
            · skip
              replace h8 := ic_lss' h8
              refine V.exit ?_
              refine VE.then_exit ?_
              refine VE.then_exit ?_
              refine VE.block_here ?_
              refine VE.block_normal ?_
              refine VE.then_wp ?_
              refine V.region ?_
              refine VL.r (.inl rfl) rfl (by decide) (yr_move rfl rfl) ?_
              refine VL.r (.inl rfl) rfl (by decide) (yr_int rfl rfl rfl (.inr (.inl ⟨rfl, wrap_in (by omega)⟩))) ?_
              refine VL.r (.inl rfl) rfl (by decide) (yr_assign rfl rfl) ?_
              refine VL.nil ?_
              refine VE.round (k + 1, p1, q1, L1) ?_ ?_ ?_ ?_ ?_
              · exact (.cons (congrArg (fun i => some (Value.int .i64 i)) (by omega)) (.cons (congrArg (fun n => some (Value.slice _ n _)) (by rw [sgnR]; rw [show j = (sgnR (fun y => sqK xss ws gs y xss.length) (sgn0 xss size) k).length by omega])) .nil))
              · exact (.cons rfl .nil)
              · exact (fun w hw => hw)
              · exact ⟨by omega, by rw [sgnR]; rw [show j = (sgnR (fun y => sqK xss ws gs y xss.length) (sgn0 xss size) k).length by omega] at hC; exact hC⟩
              · (try dsimp only); omega
          · skip
            replace h7 := ic_gtr' h7
            refine V.exit ?_
            refine VE.then_exit ?_
            refine VE.then_exit ?_
            refine VE.block_here ?_
            refine VE.then_wp ?_
            refine V.seq ?_
            refine V.region ?_
            refine VL.r (.inl rfl) rfl (by decide) (yr_move rfl rfl) ?_
            refine VL.r (.inl rfl) rfl (by decide) (yr_assign rfl rfl) ?_
            refine VL.r (.inl rfl) rfl (by decide) (yr_assign (u := .bool true) rfl rfl) ?_
            refine VL.nil ?_
            refine VE.then_wp ?_
            refine V.ret ?_
            refine ret2 rfl rfl rfl (by nofun) (by nofun) (fun w1 hw => ?_)
            first
              | (have hs : sgnOk xss ws gs size rn = true := sgnOk_yes hva (by assumption) hrn
                 obtain rfl : k = rn.toNat := by omega
                 have he : (sgnR (fun y => sqK xss ws gs y xss.length) (sgn0 xss size) rn.toNat) = sgnD xss ws gs size rn := (sgnD_yes hs).symm
                 rw [hs, ← he]
                 exact ⟨(p, pc), rfl, hw.below, fun e he => (by rw [List.mem_singleton] at he; subst he; exact hw.ents _ (List.mem_append_left _ (by assumption))), List.pairwise_singleton _ _⟩)
              | (have hs : sgnOk xss ws gs size rn = false := by first | exact sgnOk_no1 (by assumption) | exact sgnOk_no2 (by assumption) | exact sgnOk_no3 (by assumption)
                 exact ⟨(none, 0), by rw [sgnD_no hs, hs]; rfl, hw.below, by rw [sgnD_no hs]; simp [fl, Ent.at], List.pairwise_singleton _ _⟩)

theorem c_implSign {w : World} {a a1 a2 : Option Addr} {c c1 c2 : Nat} {f : Nat → Option Addr × Nat} {xss : List (List Nat)} {ws gs : List Nat} {size : Nat} {rn : Int} (hA : Cl w a (hd f xss)) (hR : Rws w f xss) (hW : Cl w a1 (fl ws)) (hG : Cl w a2 (fl gs)) (hsz : bulk xss + ws.length + gs.length ≤ 1050000) : New Try.prog 33 [.agg #[.slice a xss.length c, .slice a1 ws.length c1, .slice a2 gs.length c2], .float .f32 size, .int .i64 rn] w (fun p : Option Addr × Nat => .tuple #[.slice p.1 (sgnD xss ws gs size rn).length p.2, .bool (sgnOk xss ws gs size rn)]) (fun p => [⟨p.1, fl (sgnD xss ws gs size rn), p.2 * 1, 22⟩]) := by
  refine New.enter Try.func33 rfl Try.ntmps33 (Nat.le_of_ble_eq_true rfl) ?_
  have hr : ∀ i, i < xss.length → (xss.getD i []).length ≤ 1050000 := fun i hi => by have := bulk_row hi; omega
  have hxl : xss.length ≤ bulk xss := by unfold bulk; omega
  refine V.seq ?_
  refine V.region ?_
  refine VL.new1 (.inl rfl) rfl (by decide) (yn_box rfl rfl (.inr ⟨rfl, rfl⟩)) ?_
  intro b3
  refine VL.r (.inl rfl) rfl (by decide) (yr_assign (u := .slice none 0 0) rfl rfl) ?_
  refine VL.r (.inl rfl) rfl (by decide) (yr_assign (u := .bool false) rfl rfl) ?_
  refine VL.nil ?_
  refine VE.then_wp ?_
  refine V.seq ?_
  refine V.seq ?_
  refine V.region ?_
  refine VL.q (.inl rfl) rfl (by decide) (yq_loadS rfl Try.underlying48 sz48_Sign rfl (by first | exact Sees.root (by assumption) | exact Sees.own (by repeat (first | exact List.mem_cons_self | exact List.mem_append_left _ (by assumption) | apply List.mem_cons_of_mem | apply List.mem_append_right)) | exact Sees.root (hR _ (by omega)) | exact Sees.own (RowsIn.mem (by repeat (first | exact RowsIn.here | exact RowsIn.last | apply RowsIn.there | apply RowsIn.thereS)) _ (by omega)) | exact Sees.own (WRowsIn.mem (by repeat (first | exact WRowsIn.here | exact WRowsIn.last | apply WRowsIn.there | apply WRowsIn.thereS)) _ (by omega))) rfl rfl rfl) ?_
  refine VL.q (.inl rfl) rfl (by decide) (yq_callf rfl known84_Sign (.cons rfl .nil) (fun w hw => (c_implValid (by first | exact Sees.root (by assumption) w hw | exact Sees.own (by repeat (first | exact List.mem_cons_self | exact List.mem_append_left _ (by assumption) | apply List.mem_cons_of_mem | apply List.mem_append_right)) w hw) (by first | exact Rws.root (by assumption) hw | exact Rws.own (by repeat (first | exact RowsIn.here | exact RowsIn.last | apply RowsIn.there | apply RowsIn.thereS)) hw) (by first | exact Sees.root (by assumption) w hw | exact Sees.own (by repeat (first | exact List.mem_cons_self | exact List.mem_append_left _ (by assumption) | apply List.mem_cons_of_mem | apply List.mem_append_right)) w hw) (by first | exact Sees.root (by assumption) w hw | exact Sees.own (by repeat (first | exact List.mem_cons_self | exact List.mem_append_left _ (by assumption) | apply List.mem_cons_of_mem | apply List.mem_append_right)) w hw) (by omega)))) ?_
  refine VL.r (.inl rfl) rfl (by decide) (yr_not rfl rfl) ?_
  refine VL.r (.inl rfl) rfl (by decide) (yr_move rfl rfl) ?_
  refine VX.split 15 _ rfl (fun h1 => ?_) (fun h1 => ?_)
  · skip
    replace h1 := bnot_t h1
    refine VL.no rfl rfl rfl rfl rfl (by decide) ?_
    refine VL.no rfl rfl rfl rfl rfl (by decide) ?_
    refine VL.no rfl rfl rfl rfl rfl (by decide) ?_
    refine VL.r (.inl rfl) rfl (by decide) (yr_pick_t (u := .bool true) rfl rfl rfl) ?_
    refine VL.r (.inl rfl) rfl (by decide) (yr_move rfl rfl) ?_
    refine VL.no rfl rfl rfl rfl rfl (by decide) ?_
    refine VL.no rfl rfl rfl rfl rfl (by decide) ?_
    refine VL.no rfl rfl rfl rfl rfl (by decide) ?_
    refine VL.r (.inl rfl) rfl (by decide) (yr_pick_t (u := .bool true) rfl rfl rfl) ?_
    refine VL.nil ?_
    refine VE.then_wp ?_
    refine V.condT rfl ?_
    refine V.seq ?_
    refine V.region ?_
    refine VL.r (.inl rfl) rfl (by decide) (yr_assign (u := .slice none 0 0) rfl rfl) ?_
    refine VL.r (.inl rfl) rfl (by decide) (yr_assign (u := .bool false) rfl rfl) ?_
    refine VL.nil ?_
    refine VE.then_wp ?_
    refine V.ret ?_
    refine VE.then_ret ?_
    refine ret2 rfl rfl rfl (by nofun) (by nofun) (fun w1 hw => ?_)
    first
      | (have hs : sgnOk xss ws gs size rn = true := sgnOk_yes hva (by assumption) hrn
         obtain rfl : k = rn.toNat := by omega
         have he : (sgnR (fun y => sqK xss ws gs y xss.length) (sgn0 xss size) rn.toNat) = sgnD xss ws gs size rn := (sgnD_yes hs).symm
         rw [hs, ← he]
         exact ⟨(p, pc), rfl, hw.below, fun e he => (by rw [List.mem_singleton] at he; subst he; exact hw.ents _ (List.mem_append_left _ (by assumption))), List.pairwise_singleton _ _⟩)
      | (have hs : sgnOk xss ws gs size rn = false := by first | exact sgnOk_no1 (by assumption) | exact sgnOk_no2 (by assumption) | exact sgnOk_no3 (by assumption)
         exact ⟨(none, 0), by rw [sgnD_no hs, hs]; rfl, hw.below, by rw [sgnD_no hs]; simp [fl, Ent.at], List.pairwise_singleton _ _⟩)
  · skip
    replace h1 := bnot_f h1
    have hva := h1
    obtain ⟨v1, v2, v3, v4, v5, v6, v7, v8⟩ := valid_is hva
    refine VL.r (.inr ⟨_, _, _, rfl, rfl, rfl⟩) rfl (by decide) (yr_move rfl rfl) ?_
    refine VL.q (.inr ⟨_, _, _, rfl, rfl, rfl⟩) rfl (by decide) (yq_callf rfl known95_Sign (.cons rfl .nil) (fun w hw => c_isLength _)) ?_
    refine VL.r (.inr ⟨_, _, _, rfl, rfl, rfl⟩) rfl (by decide) (yr_not rfl rfl) ?_
    refine VL.r (.inl rfl) rfl (by decide) (yr_pick_f rfl rfl rfl) ?_
    refine VL.r (.inl rfl) rfl (by decide) (yr_move rfl rfl) ?_
    refine VX.split 20 _ rfl (fun h3 => ?_) (fun h3 => ?_)
    · skip
      replace h3 := bnot_t h3
      refine VL.no rfl rfl rfl rfl rfl (by decide) ?_
      refine VL.no rfl rfl rfl rfl rfl (by decide) ?_
      refine VL.no rfl rfl rfl rfl rfl (by decide) ?_
      refine VL.r (.inl rfl) rfl (by decide) (yr_pick_t (u := .bool true) rfl rfl rfl) ?_
      refine VL.nil ?_
      refine VE.then_wp ?_
      refine V.condT rfl ?_
      refine V.seq ?_
      refine V.region ?_
      refine VL.r (.inl rfl) rfl (by decide) (yr_assign (u := .slice none 0 0) rfl rfl) ?_
      refine VL.r (.inl rfl) rfl (by decide) (yr_assign (u := .bool false) rfl rfl) ?_
      refine VL.nil ?_
      refine VE.then_wp ?_
      refine V.ret ?_
      refine VE.then_ret ?_
      refine ret2 rfl rfl rfl (by nofun) (by nofun) (fun w1 hw => ?_)
      first
        | (have hs : sgnOk xss ws gs size rn = true := sgnOk_yes hva (by assumption) hrn
           obtain rfl : k = rn.toNat := by omega
           have he : (sgnR (fun y => sqK xss ws gs y xss.length) (sgn0 xss size) rn.toNat) = sgnD xss ws gs size rn := (sgnD_yes hs).symm
           rw [hs, ← he]
           exact ⟨(p, pc), rfl, hw.below, fun e he => (by rw [List.mem_singleton] at he; subst he; exact hw.ents _ (List.mem_append_left _ (by assumption))), List.pairwise_singleton _ _⟩)
        | (have hs : sgnOk xss ws gs size rn = false := by first | exact sgnOk_no1 (by assumption) | exact sgnOk_no2 (by assumption) | exact sgnOk_no3 (by assumption)
           exact ⟨(none, 0), by rw [sgnD_no hs, hs]; rfl, hw.below, by rw [sgnD_no hs]; simp [fl, Ent.at], List.pairwise_singleton _ _⟩)
    · skip
      replace h3 := bnot_f h3
      refine VL.r (.inr ⟨_, _, _, rfl, rfl, rfl⟩) rfl (by decide) (yr_move rfl rfl) ?_
      refine VL.q (.inr ⟨_, _, _, rfl, rfl, rfl⟩) rfl (by decide) (yq_callf rfl known96_Sign (.cons rfl .nil) (fun w hw => c_isRounds)) ?_
      refine VL.r (.inr ⟨_, _, _, rfl, rfl, rfl⟩) rfl (by decide) (yr_not rfl rfl) ?_
      refine VL.r (.inl rfl) rfl (by decide) (yr_pick_f rfl rfl rfl) ?_
      refine VL.nil ?_
      refine VE.then_wp ?_
      refine V.cond rfl (fun h5 => ?_) (fun h5 => ?_)
      · skip
        replace h5 := bnot_t h5
        refine V.seq ?_
        refine V.region ?_
        refine VL.r (.inl rfl) rfl (by decide) (yr_assign (u := .slice none 0 0) rfl rfl) ?_
        refine VL.r (.inl rfl) rfl (by decide) (yr_assign (u := .bool false) rfl rfl) ?_
        refine VL.nil ?_
        refine VE.then_wp ?_
        refine V.ret ?_
        refine VE.then_ret ?_
        refine ret2 rfl rfl rfl (by nofun) (by nofun) (fun w1 hw => ?_)
        first
          | (have hs : sgnOk xss ws gs size rn = true := sgnOk_yes hva (by assumption) hrn
             obtain rfl : k = rn.toNat := by omega
             have he : (sgnR (fun y => sqK xss ws gs y xss.length) (sgn0 xss size) rn.toNat) = sgnD xss ws gs size rn := (sgnD_yes hs).symm
             rw [hs, ← he]
             exact ⟨(p, pc), rfl, hw.below, fun e he => (by rw [List.mem_singleton] at he; subst he; exact hw.ents _ (List.mem_append_left _ (by assumption))), List.pairwise_singleton _ _⟩)
          | (have hs : sgnOk xss ws gs size rn = false := by first | exact sgnOk_no1 (by assumption) | exact sgnOk_no2 (by assumption) | exact sgnOk_no3 (by assumption)
             exact ⟨(none, 0), by rw [sgnD_no hs, hs]; rfl, hw.below, by rw [sgnD_no hs]; simp [fl, Ent.at], List.pairwise_singleton _ _⟩)
      · skip
        replace h5 := bnot_f h5
        have hrn := of_decide_eq_true h5
        refine V.skip ?_
        refine VE.then_wp ?_
        refine V.seq ?_
        refine V.region ?_
        refine VL.r (.inl rfl) rfl (by decide) (yr_move rfl rfl) ?_
        refine VL.r (.inl rfl) rfl (by decide) (yr_fneg rfl rfl) ?_
        refine VL.new1 (.inl rfl) rfl (by decide) (yn_lit rfl Try.underlying29 elt22_Sign rfl (by decide) (.cons rfl .nil) (by first | (simp; done) | (simp [cn, cn1, cn0]; done)) rfl rfl rfl) ?_
        intro b27
        refine VL.r (.inl rfl) rfl (by decide) (yr_fieldAddr rfl Try.underlying48 rfl rfl sz44_Sign (by decide) rfl) ?_
        refine VL.q (.inl rfl) rfl (by decide) (yq_load rfl fb44_Sign rfl (by first | exact Sees.root (by assumption) | exact Sees.own (by repeat (first | exact List.mem_cons_self | exact List.mem_append_left _ (by assumption) | apply List.mem_cons_of_mem | apply List.mem_append_right)) | exact Sees.root (hR _ (by omega)) | exact Sees.own (RowsIn.mem (by repeat (first | exact RowsIn.here | exact RowsIn.last | apply RowsIn.there | apply RowsIn.thereS)) _ (by omega)) | exact Sees.own (WRowsIn.mem (by repeat (first | exact WRowsIn.here | exact WRowsIn.last | apply WRowsIn.there | apply WRowsIn.thereS)) _ (by omega))) rfl) ?_
        refine VL.q (.inl rfl) rfl (by decide) (yq_idx (k := 0) rfl Try.underlying44 sz29_Sign rfl rfl (by first | exact Sees.root (by assumption) | exact Sees.own (by repeat (first | exact List.mem_cons_self | exact List.mem_append_left _ (by assumption) | apply List.mem_cons_of_mem | apply List.mem_append_right)) | exact Sees.root (hR _ (by omega)) | exact Sees.own (RowsIn.mem (by repeat (first | exact RowsIn.here | exact RowsIn.last | apply RowsIn.there | apply RowsIn.thereS)) _ (by omega)) | exact Sees.own (WRowsIn.mem (by repeat (first | exact WRowsIn.here | exact WRowsIn.last | apply WRowsIn.there | apply WRowsIn.thereS)) _ (by omega))) (by first | rfl | omega | (push_cast; rfl) | (push_cast; omega) | exact tmod_nat _ _) (by first | exact fl_length _ | exact hd_length _ _ | (rw [fl_length])) (by omega)) ?_
        refine VL.q (.inl rfl) rfl (by decide) (yq_loadH rfl fb29_Sign rfl (by first | exact Sees.root (by assumption) | exact Sees.own (by repeat (first | exact List.mem_cons_self | exact List.mem_append_left _ (by assumption) | apply List.mem_cons_of_mem | apply List.mem_append_right)) | exact Sees.root (hR _ (by omega)) | exact Sees.own (RowsIn.mem (by repeat (first | exact RowsIn.here | exact RowsIn.last | apply RowsIn.there | apply RowsIn.thereS)) _ (by omega)) | exact Sees.own (WRowsIn.mem (by repeat (first | exact WRowsIn.here | exact WRowsIn.last | apply WRowsIn.there | apply WRowsIn.thereS)) _ (by omega))) (by omega)) ?_
        refine VL.r (.inl rfl) rfl (by decide) (yr_len rfl Try.underlying29 rfl) ?_
        refine VL.new1 (.inl rfl) rfl (by decide) (yn_callf rfl known97_Sign (.cons rfl (.cons rfl .nil)) (fun w hw => (c_repeat (v := fneg .f32 size) (m := (xss.getD 0 []).length) (by first | exact Sees.root (by assumption) w hw | exact Sees.own (by repeat (first | exact List.mem_cons_self | exact List.mem_append_left _ (by assumption) | apply List.mem_cons_of_mem | apply List.mem_append_right)) w hw) (by omega) (by omega)))) ?_
        intro b33
        refine VL.r (.inl rfl) rfl (by decide) (yr_assign rfl rfl) ?_
        refine VL.nil ?_
        refine VE.then_wp ?_
        refine V.seq ?_
        refine V.seq ?_
        refine V.region ?_
        refine VL.r (.inl rfl) rfl (by decide) (yr_move rfl rfl) ?_
        refine VL.r (.inl rfl) rfl (by decide) (yr_move (u := .int .i64 0) rfl rfl) ?_
        refine VL.nil ?_
        refine VE.then_wp ?_
        refine V.block ?_
        refine V.loopc (G := Nat × (Option Addr) × Nat × (List Ent)) [(3, _), (34, _)] (fun ⟨k, p, pc, L⟩ => k ≤ rn.toNat ∧ (⟨p, fl (sgnR (fun y => sqK xss ws gs y xss.length) (sgn0 xss size) k), pc * 1, 22⟩ : Ent) ∈ L) (fun ⟨k, p, pc, L⟩ => (L ++ [⟨some ⟨b3, 0, none⟩, [.slice a xss.length c, .slice a1 ws.length c1, .slice a2 gs.length c2], 3, 48⟩])) (fun ⟨k, p, pc, L⟩ => [(8, .slice p (sgnR (fun y => sqK xss ws gs y xss.length) (sgn0 xss size) k).length pc), (35, .int .i64 (k : Int))]) (fun ⟨k, p, pc, L⟩ => rn.toNat - k) (0, (some ⟨b33, 0, none⟩), (xss.getD 0 []).length, [⟨(some ⟨b33, 0, none⟩), fl (sgn0 xss size), (xss.getD 0 []).length * 1, 22⟩]) (.cons rfl (.cons rfl .nil)) (.cons (congrArg (fun n => some (Value.slice _ n _)) (by first | rfl | (rw [sgnR, sgn0_length]; done) | (rw [sgnR, sgn0_length]; omega))) (.cons (congrArg (fun i => some (Value.int .i64 i)) (by omega)) .nil)) ?_ ?_ ?_
        · exact (fun w hw => hw.sub ((List.sublist_cons_self _ _).cons_cons _))
        · exact (by exact ⟨by omega, List.mem_cons_self⟩)
        rintro ⟨k, p, pc, L⟩ ⟨hk, hL⟩
        show V _ _ _ (L ++ [⟨some ⟨b3, 0, none⟩, [.slice a xss.length c, .slice a1 ws.length c1, .slice a2 gs.length c2], 3, 48⟩]) ([(8, .slice p (sgnR (fun y => sqK xss ws gs y xss.length) (sgn0 xss size) k).length pc), (35, .int .i64 (k : Int))] ++ [(3, _), (34, _)]) _ _
        have hKl : (sgnR (fun y => sqK xss ws gs y xss.length) (sgn0 xss size) k).length = (xss.getD 0 []).length := (sgnR_length k).trans sgn0_length
        refine V.seq ?_
        refine V.region ?_
        refine VL.r (.inl rfl) rfl (by decide) (yr_icmp rfl (.inr (.inr (.inl rfl))) rfl rfl) ?_
        refine VL.nil ?_
        refine VE.then_wp ?_
        refine V.seq ?_
        refine V.cond rfl (fun h6 => ?_) (fun h6 => ?_)
        · skip
          replace h6 := ic_lss h6
          refine V.skip ?_
          refine VE.then_wp ?_
          refine V.seq ?_
          refine V.block ?_
          refine V.seq ?_
          refine V.region ?_
          refine VL.r (.inl rfl) rfl (by decide) (yr_move rfl rfl) ?_
          refine VL.r (.inl rfl) rfl (by decide) (yr_len rfl Try.underlying29 rfl) ?_
          refine VL.r (.inl rfl) rfl (by decide) (yr_move (u := .int .i64 0) rfl rfl) ?_
          refine VL.nil ?_
          refine VE.then_wp ?_
          refine V.block ?_
          refine V.loopc (G := Nat × (Option Addr) × Nat × (List Ent)) [(3, _), (34, _), (35, _), (37, _), (38, _)] (fun ⟨j, p1, q1, L1⟩ => j ≤ (sgnR (fun y => sqK xss ws gs y xss.length) (sgn0 xss size) k).length ∧ (⟨p1, fl (sgnJ (fun y => sqK xss ws gs y xss.length) (sgnR (fun y => sqK xss ws gs y xss.length) (sgn0 xss size) k) j), q1 * 1, 22⟩ : Ent) ∈ L1 ∧ (⟨p, fl (sgnR (fun y => sqK xss ws gs y xss.length) (sgn0 xss size) k), pc * 1, 22⟩ : Ent) ∈ L1) (fun ⟨j, p1, q1, L1⟩ => (L1 ++ [⟨some ⟨b3, 0, none⟩, [.slice a xss.length c, .slice a1 ws.length c1, .slice a2 gs.length c2], 3, 48⟩])) (fun ⟨j, p1, q1, L1⟩ => [(8, .slice p1 (sgnJ (fun y => sqK xss ws gs y xss.length) (sgnR (fun y => sqK xss ws gs y xss.length) (sgn0 xss size) k) j).length q1), (39, .int .i64 (j : Int))]) (fun ⟨j, p1, q1, L1⟩ => (sgnR (fun y => sqK xss ws gs y xss.length) (sgn0 xss size) k).length - j) (0, p, pc, L) (.cons rfl (.cons rfl (.cons rfl (.cons rfl (.cons rfl .nil))))) (.cons rfl (.cons rfl .nil)) ?_ ?_ ?_
          · exact (fun w hw => hw)
          · exact (by exact ⟨by omega, hL, hL⟩)
          rintro ⟨j, p1, q1, L1⟩ ⟨hj, hC, hB0⟩
          show V _ _ _ (L1 ++ [⟨some ⟨b3, 0, none⟩, [.slice a xss.length c, .slice a1 ws.length c1, .slice a2 gs.length c2], 3, 48⟩]) ([(8, .slice p1 (sgnJ (fun y => sqK xss ws gs y xss.length) (sgnR (fun y => sqK xss ws gs y xss.length) (sgn0 xss size) k) j).length q1), (39, .int .i64 (j : Int))] ++ [(3, _), (34, _), (35, _), (37, _), (38, _)]) _ _
          have hJl : (sgnJ (fun y => sqK xss ws gs y xss.length) (sgnR (fun y => sqK xss ws gs y xss.length) (sgn0 xss size) k) j).length = (xss.getD 0 []).length := ((sgnJ_facts j).1).trans hKl
          have hJg : (sgnJ (fun y => sqK xss ws gs y xss.length) (sgnR (fun y => sqK xss ws gs y xss.length) (sgn0 xss size) k) j).getD j 0 = (sgnR (fun y => sqK xss ws gs y xss.length) (sgn0 xss size) k).getD j 0 := (sgnJ_facts j).2 j (Nat.le_refl _)
          have hfJ : fitsD xss ws gs (sgnJ (fun y => sqK xss ws gs y xss.length) (sgnR (fun y => sqK xss ws gs y xss.length) (sgn0 xss size) k) j) = true := fits_sgn hva hJl
          have hfS : fitsD xss ws gs (sgnT (sgnJ (fun y => sqK xss ws gs y xss.length) (sgnR (fun y => sqK xss ws gs y xss.length) (sgn0 xss size) k) j) j) = true := fits_sgn hva (sgnT_length.trans hJl)
          refine V.seq ?_
          refine V.region ?_
          refine VL.r (.inl rfl) rfl (by decide) (yr_icmp rfl (.inr (.inr (.inl rfl))) rfl rfl) ?_
          refine VL.nil ?_
          refine VE.then_wp ?_
          refine V.seq ?_
          refine V.cond rfl (fun h7 => ?_) (fun h7 => ?_)
          · skip
            replace h7 := ic_lss h7
            refine V.skip ?_
            refine VE.then_wp ?_
            refine V.seq ?_
            refine V.block ?_
            refine V.seq ?_
            refine V.region ?_
            refine VL.r (.inl rfl) rfl (by decide) (yr_move rfl rfl) ?_
            refine VL.q (.inl rfl) rfl (by decide) (yq_idx (k := j) rfl Try.underlying29 sz22_Sign rfl rfl (by first | exact Sees.root (by assumption) | exact Sees.own (by repeat (first | exact List.mem_cons_self | exact List.mem_append_left _ (by assumption) | apply List.mem_cons_of_mem | apply List.mem_append_right)) | exact Sees.root (hR _ (by omega)) | exact Sees.own (RowsIn.mem (by repeat (first | exact RowsIn.here | exact RowsIn.last | apply RowsIn.there | apply RowsIn.thereS)) _ (by omega)) | exact Sees.own (WRowsIn.mem (by repeat (first | exact WRowsIn.here | exact WRowsIn.last | apply WRowsIn.there | apply WRowsIn.thereS)) _ (by omega))) (by first | rfl | omega | (push_cast; rfl) | (push_cast; omega) | exact tmod_nat _ _) (by first | exact fl_length _ | exact hd_length _ _ | (rw [fl_length])) (by omega)) ?_
            refine VL.q (.inl rfl) rfl (by decide) (show YQ _ _ _ _ _ (.float .f32 ((sgnJ (fun y => sqK xss ws gs y xss.length) (sgnR (fun y => sqK xss ws gs y xss.length) (sgn0 xss size) k) j).getD j 0)) from by rw [hJg]; exact yq_loadF rfl fb22_Sign rfl (by first | exact Sees.root (by assumption) | exact Sees.own (by repeat (first | exact List.mem_cons_self | exact List.mem_append_left _ (by assumption) | apply List.mem_cons_of_mem | apply List.mem_append_right)) | exact Sees.root (hR _ (by omega)) | exact Sees.own (RowsIn.mem (by repeat (first | exact RowsIn.here | exact RowsIn.last | apply RowsIn.there | apply RowsIn.thereS)) _ (by omega)) | exact Sees.own (WRowsIn.mem (by repeat (first | exact WRowsIn.here | exact WRowsIn.last | apply WRowsIn.there | apply WRowsIn.thereS)) _ (by omega))) (by omega)) ?_
            refine VL.r (.inl rfl) rfl (by decide) (yr_assign rfl rfl) ?_
            refine VL.r (.inl rfl) rfl (by decide) (yr_assign rfl rfl) ?_
            refine VL.nil ?_
            refine VE.then_wp ?_
            refine V.seq ?_
            refine V.region ?_
            refine VL.r (.inl rfl) rfl (by decide) (yr_move rfl rfl) ?_
            refine VL.r (.inl rfl) rfl (by decide) (yr_move rfl rfl) ?_
            refine VL.r (.inl rfl) rfl (by decide) (yr_move rfl rfl) ?_
            refine VL.r (.inl rfl) rfl (by decide) (yr_fneg rfl rfl) ?_
            refine VL.new1 (.inl rfl) rfl (by decide) (yn_callf rfl known98_Sign (.cons rfl (.cons rfl (.cons rfl .nil))) (fun w hw => (c_with (xs := (sgnJ (fun y => sqK xss ws gs y xss.length) (sgnR (fun y => sqK xss ws gs y xss.length) (sgn0 xss size) k) j)) (j := j) (by first | exact Sees.root (by assumption) w hw | exact Sees.own (by repeat (first | exact List.mem_cons_self | exact List.mem_append_left _ (by assumption) | apply List.mem_cons_of_mem | apply List.mem_append_right)) w hw) (by omega) (by omega)))) ?_
            rintro ⟨a48, c48⟩
            refine VL.r (.inl rfl) rfl (by decide) (yr_assign rfl rfl) ?_
            refine VL.nil ?_
            refine VE.then_wp ?_
            refine V.seq ?_
            refine V.draw [(0, 0), (1, 0), (2, 0), (3, 0), (4, 0), (5, 0), (6, 0)] mixed_Sign (by kernel_rfl) (by intro j o hj; simp at hj) ?_
            refine SW.q rfl (.inl rfl) rfl (by decide) (yq_loadS rfl Try.underlying48 sz48_Sign rfl (by first | exact Sees.root (by assumption) | exact Sees.own (by repeat (first | exact List.mem_cons_self | exact List.mem_append_left _ (by assumption) | apply List.mem_cons_of_mem | apply List.mem_append_right)) | exact Sees.root (hR _ (by omega)) | exact Sees.own (RowsIn.mem (by repeat (first | exact RowsIn.here | exact RowsIn.last | apply RowsIn.there | apply RowsIn.thereS)) _ (by omega)) | exact Sees.own (WRowsIn.mem (by repeat (first | exact WRowsIn.here | exact WRowsIn.last | apply WRowsIn.there | apply WRowsIn.thereS)) _ (by omega))) rfl rfl rfl) ?_
            refine SW.r rfl (.inl rfl) rfl (by decide) (yr_move rfl rfl) ?_
            refine SW.q rfl (.inl rfl) rfl (by decide) (yq_callf rfl known99_Sign (.cons rfl (.cons rfl .nil)) (fun w hw => (c_square (x := sgnT (sgnJ (fun y => sqK xss ws gs y xss.length) (sgnR (fun y => sqK xss ws gs y xss.length) (sgn0 xss size) k) j) j) (by first | exact Sees.root (by assumption) w hw | exact Sees.own (by repeat (first | exact List.mem_cons_self | exact List.mem_append_left _ (by assumption) | apply List.mem_cons_of_mem | apply List.mem_append_right)) w hw) (by first | exact Rws.root (by assumption) hw | exact Rws.own (by repeat (first | exact RowsIn.here | exact RowsIn.last | apply RowsIn.there | apply RowsIn.thereS)) hw) (by first | exact Sees.root (by assumption) w hw | exact Sees.own (by repeat (first | exact List.mem_cons_self | exact List.mem_append_left _ (by assumption) | apply List.mem_cons_of_mem | apply List.mem_append_right)) w hw) (by first | exact Sees.root (by assumption) w hw | exact Sees.own (by repeat (first | exact List.mem_cons_self | exact List.mem_append_left _ (by assumption) | apply List.mem_cons_of_mem | apply List.mem_append_right)) w hw) (by first | exact Sees.root (by assumption) w hw | exact Sees.own (by repeat (first | exact List.mem_cons_self | exact List.mem_append_left _ (by assumption) | apply List.mem_cons_of_mem | apply List.mem_append_right)) w hw) (by omega) hfS))) ?_
            refine SW.q rfl (.inl rfl) rfl (by decide) (yq_loadS rfl Try.underlying48 sz48_Sign rfl (by first | exact Sees.root (by assumption) | exact Sees.own (by repeat (first | exact List.mem_cons_self | exact List.mem_append_left _ (by assumption) | apply List.mem_cons_of_mem | apply List.mem_append_right)) | exact Sees.root (hR _ (by omega)) | exact Sees.own (RowsIn.mem (by repeat (first | exact RowsIn.here | exact RowsIn.last | apply RowsIn.there | apply RowsIn.thereS)) _ (by omega)) | exact Sees.own (WRowsIn.mem (by repeat (first | exact WRowsIn.here | exact WRowsIn.last | apply WRowsIn.there | apply WRowsIn.thereS)) _ (by omega))) rfl rfl rfl) ?_
            refine SW.r rfl (.inl rfl) rfl (by decide) (yr_move rfl rfl) ?_
            refine SW.q rfl (.inl rfl) rfl (by decide) (yq_callf rfl known99_Sign (.cons rfl (.cons rfl .nil)) (fun w hw => (c_square (x := (sgnJ (fun y => sqK xss ws gs y xss.length) (sgnR (fun y => sqK xss ws gs y xss.length) (sgn0 xss size) k) j)) (by first | exact Sees.root (by assumption) w hw | exact Sees.own (by repeat (first | exact List.mem_cons_self | exact List.mem_append_left _ (by assumption) | apply List.mem_cons_of_mem | apply List.mem_append_right)) w hw) (by first | exact Rws.root (by assumption) hw | exact Rws.own (by repeat (first | exact RowsIn.here | exact RowsIn.last | apply RowsIn.there | apply RowsIn.thereS)) hw) (by first | exact Sees.root (by assumption) w hw | exact Sees.own (by repeat (first | exact List.mem_cons_self | exact List.mem_append_left _ (by assumption) | apply List.mem_cons_of_mem | apply List.mem_append_right)) w hw) (by first | exact Sees.root (by assumption) w hw | exact Sees.own (by repeat (first | exact List.mem_cons_self | exact List.mem_append_left _ (by assumption) | apply List.mem_cons_of_mem | apply List.mem_append_right)) w hw) (by first | exact Sees.root (by assumption) w hw | exact Sees.own (by repeat (first | exact List.mem_cons_self | exact List.mem_append_left _ (by assumption) | apply List.mem_cons_of_mem | apply List.mem_append_right)) w hw) (by omega) hfJ))) ?_
            refine SW.r rfl (.inl rfl) rfl (by decide) (yr_fcmp rfl (.inr (.inr (.inl rfl))) rfl rfl) ?_
            refine SW.done ?_
            refine VE.then_wp ?_
            refine V.cond rfl (fun h8 => ?_) (fun h8 => ?_)
            · skip
              refine V.region ?_
              refine VL.r (.inl rfl) rfl (by decide) (yr_move rfl rfl) ?_
              refine VL.r (.inl rfl) rfl (by decide) (yr_assign rfl rfl) ?_
              refine VL.nil ?_
              refine VE.block_normal ?_
              refine VE.then_wp ?_
              refine V.region ?_
              refine VL.r (.inl rfl) rfl (by decide) (yr_int rfl rfl rfl (.inl ⟨rfl, wrap_in (by omega)⟩)) ?_
              refine VL.r (.inl rfl) rfl (by decide) (yr_move rfl rfl) ?_
              refine VL.nil ?_
              refine VE.round (j + 1, a48, c48, ⟨a48, fl (sgnT (sgnJ (fun y => sqK xss ws gs y xss.length) (sgnR (fun y => sqK xss ws gs y xss.length) (sgn0 xss size) k) j) j), c48 * 1, 22⟩ :: L1) ?_ ?_ ?_ ?_ ?_
              · exact (.cons (congrArg (fun n => some (Value.slice _ n _)) (by first | (rw [sgnJ, sgnN_yes (by assumption)]; done) | (rw [sgnJ, sgnN_yes (by assumption)]; rfl) | (rw [sgnJ, sgnN_no (by assumption)]))) (.cons rfl .nil))
              · exact (.cons rfl (.cons rfl (.cons rfl (.cons rfl (.cons rfl .nil)))))
              · exact (fun w hw => hw)
              · exact ⟨by omega, (by rw [sgnJ, sgnN_yes (by assumption)]; exact List.mem_cons_self), List.mem_cons_of_mem _ hB0⟩
              · (try dsimp only); omega
            · skip
              refine V.skip ?_
              refine VE.block_normal ?_
              refine VE.then_wp ?_
              refine V.region ?_
              refine VL.r (.inl rfl) rfl (by decide) (yr_int rfl rfl rfl (.inl ⟨rfl, wrap_in (by omega)⟩)) ?_
              refine VL.r (.inl rfl) rfl (by decide) (yr_move rfl rfl) ?_
              refine VL.nil ?_
              refine VE.round (j + 1, p1, q1, L1) ?_ ?_ ?_ ?_ ?_
              · exact (.cons (congrArg (fun n => some (Value.slice _ n _)) (by first | (rw [sgnJ, sgnN_yes (by assumption)]; done) | (rw [sgnJ, sgnN_yes (by assumption)]; rfl) | (rw [sgnJ, sgnN_no (by assumption)]))) (.cons rfl .nil))
              · exact (.cons rfl (.cons rfl (.cons rfl (.cons rfl (.cons rfl .nil)))))
              · exact (fun w hw => hw.sub (List.sublist_cons_self _ _))
              · exact ⟨by omega, (by rw [sgnJ, sgnN_no (by assumption)]; exact hC), hB0⟩
              · (try dsimp only); omega
          · skip
            replace h7 := ic_lss' h7
            refine V.exit ?_
            refine VE.then_exit ?_
            refine VE.then_exit ?_
            refine VE.block_here ?_
            refine VE.block_normal ?_
            refine VE.then_wp ?_
            refine V.region ?_
            refine VL.r (.inl rfl) rfl (by decide) (yr_int rfl rfl rfl (.inl ⟨rfl, wrap_in (by omega)⟩)) ?_
            refine VL.r (.inl rfl) rfl (by decide) (yr_move rfl rfl) ?_
            refine VL.nil ?_
            refine VE.round (k + 1, p1, q1, L1) ?_ ?_ ?_ ?_ ?_
            · exact (.cons (congrArg (fun n => some (Value.slice _ n _)) (by rw [sgnR]; rw [show j = (sgnR (fun y => sqK xss ws gs y xss.length) (sgn0 xss size) k).length by omega])) (.cons (congrArg (fun i => some (Value.int .i64 i)) (by omega)) .nil))
            · exact (.cons rfl (.cons rfl .nil))
            · exact (fun w hw => hw)
            · exact ⟨by omega, by rw [sgnR]; rw [show j = (sgnR (fun y => sqK xss ws gs y xss.length) (sgn0 xss size) k).length by omega] at hC; exact hC⟩
            · (try dsimp only); omega
        · skip
          replace h6 := ic_lss' h6
          refine V.exit ?_
          refine VE.then_exit ?_
          refine VE.then_exit ?_
          refine VE.block_here ?_
          refine VE.then_wp ?_
          refine V.seq ?_
          refine V.region ?_
          refine VL.r (.inl rfl) rfl (by decide) (yr_move rfl rfl) ?_
          refine VL.r (.inl rfl) rfl (by decide) (yr_assign rfl rfl) ?_
          refine VL.r (.inl rfl) rfl (by decide) (yr_assign (u := .bool true) rfl rfl) ?_
          refine VL.nil ?_
          refine VE.then_wp ?_
          refine V.ret ?_
          refine ret2 rfl rfl rfl (by nofun) (by nofun) (fun w1 hw => ?_)
          first
            | (have hs : sgnOk xss ws gs size rn = true := sgnOk_yes hva (by assumption) hrn
               obtain rfl : k = rn.toNat := by omega
               have he : (sgnR (fun y => sqK xss ws gs y xss.length) (sgn0 xss size) rn.toNat) = sgnD xss ws gs size rn := (sgnD_yes hs).symm
               rw [hs, ← he]
               exact ⟨(p, pc), rfl, hw.below, fun e he => (by rw [List.mem_singleton] at he; subst he; exact hw.ents _ (List.mem_append_left _ (by assumption))), List.pairwise_singleton _ _⟩)
            | (have hs : sgnOk xss ws gs size rn = false := by first | exact sgnOk_no1 (by assumption) | exact sgnOk_no2 (by assumption) | exact sgnOk_no3 (by assumption)
               exact ⟨(none, 0), by rw [sgnD_no hs, hs]; rfl, hw.below, by rw [sgnD_no hs]; simp [fl, Ent.at], List.pairwise_singleton _ _⟩)

theorem law_SignsOf {w : World} {a a1 a2 : Option Addr} {c c1 c2 : Nat} {f : Nat → Option Addr × Nat} {xss : List (List Nat)} {ws gs : List Nat} {size : Nat} {rn : Int} (hA : Cl w a (hd f xss)) (hR : Rws w f xss) (hW : Cl w a1 (fl ws)) (hG : Cl w a2 (fl gs)) (hX : Cans xss) (hXw : ∀ x ∈ ws, Can .f32 x) (hXg : ∀ x ∈ gs, Can .f32 x) (hm : xss.length ≤ 9223372036854775807) (hr1 : ∀ i, i < xss.length → (xss.getD i []).length ≤ 9223372036854775807) (hw1 : ws.length ≤ 9223372036854775807) (hg1 : gs.length ≤ 9223372036854775807) (hsi : Can .f32 size) : Pure Try.prog 6 [.agg #[.slice a xss.length c, .slice a1 ws.length c1, .slice a2 gs.length c2], .float .f32 size, .int .i64 rn] w (.bool true) := by
  refine Pure.enter Try.func6 rfl Try.ntmps6 (Nat.le_of_ble_eq_true rfl) ?_
  have hbu : bulk xss = xss.length + sumK xss xss.length := rfl
  have hS := can_sgnD (xss := xss) (ws := ws) (gs := gs) (rn := rn) hsi
  have hSl := sgnD_length (xss := xss) (ws := ws) (gs := gs) (size := size) (rn := rn)
  refine V.seq ?_
  refine V.region ?_
  refine VL.new1 (.inl rfl) rfl (by decide) (yn_box rfl rfl (.inr ⟨rfl, rfl⟩)) ?_
  intro b3
  refine VL.r (.inl rfl) rfl (by decide) (yr_assign (u := .bool false) rfl rfl) ?_
  refine VL.nil ?_
  refine VE.then_wp ?_
  refine V.seq ?_
  refine V.region ?_
  refine VL.r (.inl rfl) rfl (by decide) (yr_assign (u := .int .i64 1048576) rfl rfl) ?_
  refine VL.nil ?_
  refine VE.then_wp ?_
  refine V.seq ?_
  refine V.region ?_
  refine VL.q (.inl rfl) rfl (by decide) (yq_loadS rfl Try.underlying46 sz46_Sign rfl (by first | exact Sees.root (by assumption) | exact Sees.own (by repeat (first | exact List.mem_cons_self | exact List.mem_append_left _ (by assumption) | apply List.mem_cons_of_mem | apply List.mem_append_right)) | exact Sees.root (hR _ (by omega)) | exact Sees.own (RowsIn.mem (by repeat (first | exact RowsIn.here | exact RowsIn.last | apply RowsIn.there | apply RowsIn.thereS)) _ (by omega)) | exact Sees.own (WRowsIn.mem (by repeat (first | exact WRowsIn.here | exact WRowsIn.last | apply WRowsIn.there | apply WRowsIn.thereS)) _ (by omega))) rfl rfl rfl) ?_
  refine VL.r (.inl rfl) rfl (by decide) (yr_move rfl rfl) ?_
  refine VL.q (.inl rfl) rfl (by decide) (yq_callf rfl known25_Sign (.cons rfl (.cons rfl .nil)) (fun w hw => (c_szDesign (by first | exact Sees.root (by assumption) w hw | exact Sees.own (by repeat (first | exact List.mem_cons_self | exact List.mem_append_left _ (by assumption) | apply List.mem_cons_of_mem | apply List.mem_append_right)) w hw) (by omega) (by omega) (by omega) (by assumption) (by omega) (by omega)))) ?_
  refine VL.r (.inl rfl) rfl (by decide) (yr_assign rfl rfl) ?_
  refine VL.nil ?_
  refine VE.then_wp ?_
  refine V.seq ?_
  refine V.seq ?_
  refine V.region ?_
  refine VL.r (.inl rfl) rfl (by decide) (yr_move rfl rfl) ?_
  refine VL.r (.inl rfl) rfl (by decide) (yr_icmp rfl (.inr (.inr (.inl rfl))) rfl rfl) ?_
  refine VL.nil ?_
  refine VE.then_wp ?_
  refine V.cond rfl (fun h1 => ?_) (fun h1 => ?_)
  · skip
    replace h1 := ic_lss h1
    refine V.seq ?_
    refine V.region ?_
    refine VL.r (.inl rfl) rfl (by decide) (yr_assign (u := .bool true) rfl rfl) ?_
    refine VL.nil ?_
    refine VE.then_wp ?_
    refine V.ret ?_
    refine VE.then_ret ?_
    refine ret1 rfl rfl (fun w1 hw => ?_)
    exact ⟨rfl, hw.below⟩
  · skip
    replace h1 := ic_lss' h1
    have hsz := szOf_fits h1
    refine V.skip ?_
    refine VE.then_wp ?_
    refine V.seq ?_
    refine V.region ?_
    refine VL.q (.inl rfl) rfl (by decide) (yq_loadS rfl Try.underlying46 sz46_Sign rfl (by first | exact Sees.root (by assumption) | exact Sees.own (by repeat (first | exact List.mem_cons_self | exact List.mem_append_left _ (by assumption) | apply List.mem_cons_of_mem | apply List.mem_append_right)) | exact Sees.root (hR _ (by omega)) | exact Sees.own (RowsIn.mem (by repeat (first | exact RowsIn.here | exact RowsIn.last | apply RowsIn.there | apply RowsIn.thereS)) _ (by omega)) | exact Sees.own (WRowsIn.mem (by repeat (first | exact WRowsIn.here | exact WRowsIn.last | apply WRowsIn.there | apply WRowsIn.thereS)) _ (by omega))) rfl rfl rfl) ?_
    refine VL.new (.inl rfl) rfl (by decide) (yn_callf rfl known27_Sign (.cons rfl .nil) (fun w hw => (c_toDesign (by first | exact Sees.root (by assumption) w hw | exact Sees.own (by repeat (first | exact List.mem_cons_self | exact List.mem_append_left _ (by assumption) | apply List.mem_cons_of_mem | apply List.mem_append_right)) w hw) (by first | exact Rws.root (by assumption) hw | exact Rws.own (by repeat (first | exact RowsIn.here | exact RowsIn.last | apply RowsIn.there | apply RowsIn.thereS)) hw) (by first | exact Sees.root (by assumption) w hw | exact Sees.own (by repeat (first | exact List.mem_cons_self | exact List.mem_append_left _ (by assumption) | apply List.mem_cons_of_mem | apply List.mem_append_right)) w hw) (by first | exact Sees.root (by assumption) w hw | exact Sees.own (by repeat (first | exact List.mem_cons_self | exact List.mem_append_left _ (by assumption) | apply List.mem_cons_of_mem | apply List.mem_append_right)) w hw) (by omega)))) ?_
    rintro ⟨⟨b25, f25⟩, ⟨a25, c25⟩, ⟨d25, e25⟩⟩
    refine VL.r (.inl rfl) rfl (by decide) (yr_move rfl rfl) ?_
    refine VL.r (.inl rfl) rfl (by decide) (yr_move rfl rfl) ?_
    refine VL.new1 (.inl rfl) rfl (by decide) (yn_callf rfl known32_Sign (.cons rfl (.cons rfl (.cons rfl .nil))) (fun w hw => (c_specSign (by first | exact Sees.root (by assumption) w hw | exact Sees.own (by repeat (first | exact List.mem_cons_self | exact List.mem_append_left _ (by assumption) | apply List.mem_cons_of_mem | apply List.mem_append_right)) w hw) (by first | exact Rws.root (by assumption) hw | exact Rws.own (by repeat (first | exact RowsIn.here | exact RowsIn.last | apply RowsIn.there | apply RowsIn.thereS)) hw) (by first | exact Sees.root (by assumption) w hw | exact Sees.own (by repeat (first | exact List.mem_cons_self | exact List.mem_append_left _ (by assumption) | apply List.mem_cons_of_mem | apply List.mem_append_right)) w hw) (by first | exact Sees.root (by assumption) w hw | exact Sees.own (by repeat (first | exact List.mem_cons_self | exact List.mem_append_left _ (by assumption) | apply List.mem_cons_of_mem | apply List.mem_append_right)) w hw) (by omega)))) ?_
    rintro ⟨a28, c28⟩
    refine VL.r (.inl rfl) rfl (by decide) (yr_move rfl rfl) ?_
    refine VL.r (.inl rfl) rfl (by decide) (yr_extract rfl rfl rfl (by nofun)) ?_
    refine VL.r (.inl rfl) rfl (by decide) (yr_extract rfl rfl rfl (by nofun)) ?_
    refine VL.r (.inl rfl) rfl (by decide) (yr_assign rfl rfl) ?_
    refine VL.r (.inl rfl) rfl (by decide) (yr_assign rfl rfl) ?_
    refine VL.nil ?_
    refine VE.then_wp ?_
    refine V.seq ?_
    refine V.region ?_
    refine VL.q (.inl rfl) rfl (by decide) (yq_loadS rfl Try.underlying46 sz46_Sign rfl (by first | exact Sees.root (by assumption) | exact Sees.own (by repeat (first | exact List.mem_cons_self | exact List.mem_append_left _ (by assumption) | apply List.mem_cons_of_mem | apply List.mem_append_right)) | exact Sees.root (hR _ (by omega)) | exact Sees.own (RowsIn.mem (by repeat (first | exact RowsIn.here | exact RowsIn.last | apply RowsIn.there | apply RowsIn.thereS)) _ (by omega)) | exact Sees.own (WRowsIn.mem (by repeat (first | exact WRowsIn.here | exact WRowsIn.last | apply WRowsIn.there | apply WRowsIn.thereS)) _ (by omega))) rfl rfl rfl) ?_
    refine VL.new (.inl rfl) rfl (by decide) (yn_callf rfl known27_Sign (.cons rfl .nil) (fun w hw => (c_toDesign (by first | exact Sees.root (by assumption) w hw | exact Sees.own (by repeat (first | exact List.mem_cons_self | exact List.mem_append_left _ (by assumption) | apply List.mem_cons_of_mem | apply List.mem_append_right)) w hw) (by first | exact Rws.root (by assumption) hw | exact Rws.own (by repeat (first | exact RowsIn.here | exact RowsIn.last | apply RowsIn.there | apply RowsIn.thereS)) hw) (by first | exact Sees.root (by assumption) w hw | exact Sees.own (by repeat (first | exact List.mem_cons_self | exact List.mem_append_left _ (by assumption) | apply List.mem_cons_of_mem | apply List.mem_append_right)) w hw) (by first | exact Sees.root (by assumption) w hw | exact Sees.own (by repeat (first | exact List.mem_cons_self | exact List.mem_append_left _ (by assumption) | apply List.mem_cons_of_mem | apply List.mem_append_right)) w hw) (by omega)))) ?_
    rintro ⟨⟨b32, f32⟩, ⟨a32, c32⟩, ⟨d32, e32⟩⟩
    refine VL.new1 (.inl rfl) rfl (by decide) (yn_alloc rfl zero48_Sign rfl) ?_
    intro b10
    refine VL.s (.inl rfl) rfl (yc_store rfl sz48_Sign rfl rfl (by repeat (first | exact UpdF.here | apply UpdF.there | apply UpdF.thereS)) (.inr ⟨rfl, rfl⟩) rfl (by first | exact Nat.le_of_ble_eq_true rfl | simp) (by decide) rfl) ?_
    rintro ⟨⟩
    refine VL.nil ?_
    refine VE.then_wp ?_
    refine V.seq ?_
    refine V.region ?_
    refine VL.q (.inl rfl) rfl (by decide) (yq_loadS rfl Try.underlying48 sz48_Sign rfl (by first | exact Sees.root (by assumption) | exact Sees.own (by repeat (first | exact List.mem_cons_self | exact List.mem_append_left _ (by assumption) | apply List.mem_cons_of_mem | apply List.mem_append_right)) | exact Sees.root (hR _ (by omega)) | exact Sees.own (RowsIn.mem (by repeat (first | exact RowsIn.here | exact RowsIn.last | apply RowsIn.there | apply RowsIn.thereS)) _ (by omega)) | exact Sees.own (WRowsIn.mem (by repeat (first | exact WRowsIn.here | exact WRowsIn.last | apply WRowsIn.there | apply WRowsIn.thereS)) _ (by omega))) rfl rfl rfl) ?_
    refine VL.r (.inl rfl) rfl (by decide) (yr_move rfl rfl) ?_
    refine VL.r (.inl rfl) rfl (by decide) (yr_move rfl rfl) ?_
    refine VL.new1 (.inl rfl) rfl (by decide) (yn_callf rfl known33_Sign (.cons rfl (.cons rfl (.cons rfl .nil))) (fun w hw => (c_implSign (by first | exact Sees.root (by assumption) w hw | exact Sees.own (by repeat (first | exact List.mem_cons_self | exact List.mem_append_left _ (by assumption) | apply List.mem_cons_of_mem | apply List.mem_append_right)) w hw) (by first | exact Rws.root (by assumption) hw | exact Rws.own (by repeat (first | exact RowsIn.here | exact RowsIn.last | apply RowsIn.there | apply RowsIn.thereS)) hw) (by first | exact Sees.root (by assumption) w hw | exact Sees.own (by repeat (first | exact List.mem_cons_self | exact List.mem_append_left _ (by assumption) | apply List.mem_cons_of_mem | apply List.mem_append_right)) w hw) (by first | exact Sees.root (by assumption) w hw | exact Sees.own (by repeat (first | exact List.mem_cons_self | exact List.mem_append_left _ (by assumption) | apply List.mem_cons_of_mem | apply List.mem_append_right)) w hw) (by omega)))) ?_
    rintro ⟨a37, c37⟩
    refine VL.r (.inl rfl) rfl (by decide) (yr_move rfl rfl) ?_
    refine VL.r (.inl rfl) rfl (by decide) (yr_extract rfl rfl rfl (by nofun)) ?_
    refine VL.r (.inl rfl) rfl (by decide) (yr_extract rfl rfl rfl (by nofun)) ?_
    refine VL.r (.inl rfl) rfl (by decide) (yr_assign rfl rfl) ?_
    refine VL.r (.inl rfl) rfl (by decide) (yr_assign rfl rfl) ?_
    refine VL.nil ?_
    refine VE.then_wp ?_
    refine V.seq ?_
    refine V.seq ?_
    refine V.region ?_
    refine VL.r (.inl rfl) rfl (by decide) (yr_move rfl rfl) ?_
    refine VL.r (.inl rfl) rfl (by decide) (yr_move rfl rfl) ?_
    refine VL.q (.inl rfl) rfl (by decide) (yq_callf rfl known18_Sign (.cons rfl (.cons rfl .nil)) (fun w hw => c_eqF (by first | exact Sees.root (by assumption) w hw | exact Sees.own (by repeat (first | exact List.mem_cons_self | exact List.mem_append_left _ (by assumption) | apply List.mem_cons_of_mem | apply List.mem_append_right)) w hw) (by first | exact Sees.root (by assumption) w hw | exact Sees.own (by repeat (first | exact List.mem_cons_self | exact List.mem_append_left _ (by assumption) | apply List.mem_cons_of_mem | apply List.mem_append_right)) w hw) (by first | assumption | exact can_up _ | exact can_fop _ _ _ _ | exact can_of _ (by assumption)) (by first | assumption | exact can_up _ | exact can_fop _ _ _ _ | exact can_of _ (by assumption)) (by omega))) ?_
    refine VL.r (.inl rfl) rfl (by decide) (yr_not rfl rfl) ?_
    refine VL.r (.inl rfl) rfl (by decide) (yr_move rfl rfl) ?_
    refine VX.split 44 _ rfl (fun h2 => ?_) (fun h2 => ?_)
    · skip
      replace h2 := bnot_t h2
      first | (exfalso; omega) | (simp [bcmp] at h2; done)
    · skip
      replace h2 := bnot_f h2
      refine VL.r (.inr ⟨_, _, _, rfl, rfl, rfl⟩) rfl (by decide) (yr_move rfl rfl) ?_
      refine VL.r (.inr ⟨_, _, _, rfl, rfl, rfl⟩) rfl (by decide) (yr_move rfl rfl) ?_
      refine VL.r (.inr ⟨_, _, _, rfl, rfl, rfl⟩) rfl (by decide) (yr_bcmp rfl Try.underlying4 rfl rfl (.inr rfl)) ?_
      refine VL.r (.inl rfl) rfl (by decide) (yr_pick_f rfl rfl rfl) ?_
      refine VL.nil ?_
      refine VE.then_wp ?_
      refine V.cond rfl (fun h3 => ?_) (fun h3 => ?_)
      · skip
        first | (exfalso; omega) | (simp [bcmp] at h3; done)
      · skip
        refine V.skip ?_
        refine VE.then_wp ?_
        refine V.seq ?_
        refine V.seq ?_
        refine V.draw [(0, 0), (1, 0), (2, 1), (3, 0), (4, 0)] mixed_Sign (by kernel_rfl) (by intro j o hj; simp at hj) ?_
        refine SW.q rfl (.inl rfl) rfl (by decide) (yq_loadS rfl Try.underlying48 sz48_Sign rfl (by first | exact Sees.root (by assumption) | exact Sees.own (by repeat (first | exact List.mem_cons_self | exact List.mem_append_left _ (by assumption) | apply List.mem_cons_of_mem | apply List.mem_append_right)) | exact Sees.root (hR _ (by omega)) | exact Sees.own (RowsIn.mem (by repeat (first | exact RowsIn.here | exact RowsIn.last | apply RowsIn.there | apply RowsIn.thereS)) _ (by omega)) | exact Sees.own (WRowsIn.mem (by repeat (first | exact WRowsIn.here | exact WRowsIn.last | apply WRowsIn.there | apply WRowsIn.thereS)) _ (by omega))) rfl rfl rfl) ?_
        refine SW.q rfl (.inl rfl) rfl (by decide) (yq_loadS rfl Try.underlying46 sz46_Sign rfl (by first | exact Sees.root (by assumption) | exact Sees.own (by repeat (first | exact List.mem_cons_self | exact List.mem_append_left _ (by assumption) | apply List.mem_cons_of_mem | apply List.mem_append_right)) | exact Sees.root (hR _ (by omega)) | exact Sees.own (RowsIn.mem (by repeat (first | exact RowsIn.here | exact RowsIn.last | apply RowsIn.there | apply RowsIn.thereS)) _ (by omega)) | exact Sees.own (WRowsIn.mem (by repeat (first | exact WRowsIn.here | exact WRowsIn.last | apply WRowsIn.there | apply WRowsIn.thereS)) _ (by omega))) rfl rfl rfl) ?_
        refine SW.new rfl (.inl rfl) rfl (by decide) (yn_callf rfl known27_Sign (.cons rfl .nil) (fun w hw => (c_toDesign (by first | exact Sees.root (by assumption) w hw | exact Sees.own (by repeat (first | exact List.mem_cons_self | exact List.mem_append_left _ (by assumption) | apply List.mem_cons_of_mem | apply List.mem_append_right)) w hw) (by first | exact Rws.root (by assumption) hw | exact Rws.own (by repeat (first | exact RowsIn.here | exact RowsIn.last | apply RowsIn.there | apply RowsIn.thereS)) hw) (by first | exact Sees.root (by assumption) w hw | exact Sees.own (by repeat (first | exact List.mem_cons_self | exact List.mem_append_left _ (by assumption) | apply List.mem_cons_of_mem | apply List.mem_append_right)) w hw) (by first | exact Sees.root (by assumption) w hw | exact Sees.own (by repeat (first | exact List.mem_cons_self | exact List.mem_append_left _ (by assumption) | apply List.mem_cons_of_mem | apply List.mem_append_right)) w hw) (by omega)))) ?_
        rintro ⟨⟨b51, f51⟩, ⟨a51, c51⟩, ⟨d51, e51⟩⟩
        refine SW.q rfl (.inl rfl) rfl (by decide) (yq_callf rfl known29_Sign (.cons rfl (.cons rfl .nil)) (fun w hw => (c_eqDesign (by first | exact Sees.root (by assumption) w hw | exact Sees.own (by repeat (first | exact List.mem_cons_self | exact List.mem_append_left _ (by assumption) | apply List.mem_cons_of_mem | apply List.mem_append_right)) w hw) (by first | exact Rws.root (by assumption) hw | exact Rws.own (by repeat (first | exact RowsIn.here | exact RowsIn.last | apply RowsIn.there | apply RowsIn.thereS)) hw) (by first | exact Sees.root (by assumption) w hw | exact Sees.own (by repeat (first | exact List.mem_cons_self | exact List.mem_append_left _ (by assumption) | apply List.mem_cons_of_mem | apply List.mem_append_right)) w hw) (by first | exact Sees.root (by assumption) w hw | exact Sees.own (by repeat (first | exact List.mem_cons_self | exact List.mem_append_left _ (by assumption) | apply List.mem_cons_of_mem | apply List.mem_append_right)) w hw) (by first | exact Sees.root (by assumption) w hw | exact Sees.own (by repeat (first | exact List.mem_cons_self | exact List.mem_append_left _ (by assumption) | apply List.mem_cons_of_mem | apply List.mem_append_right)) w hw) (by first | exact Rws.root (by assumption) hw | exact Rws.own (by repeat (first | exact RowsIn.here | exact RowsIn.last | apply RowsIn.there | apply RowsIn.thereS)) hw) (by first | exact Sees.root (by assumption) w hw | exact Sees.own (by repeat (first | exact List.mem_cons_self | exact List.mem_append_left _ (by assumption) | apply List.mem_cons_of_mem | apply List.mem_append_right)) w hw) (by first | exact Sees.root (by assumption) w hw | exact Sees.own (by repeat (first | exact List.mem_cons_self | exact List.mem_append_left _ (by assumption) | apply List.mem_cons_of_mem | apply List.mem_append_right)) w hw) (by assumption) (by assumption) (by assumption) (by assumption) (by assumption) (by assumption) (by omega)))) ?_
        refine SW.r rfl (.inl rfl) rfl (by decide) (yr_not rfl rfl) ?_
        refine SW.done ?_
        refine VE.then_wp ?_
        refine V.cond rfl (fun h4 => ?_) (fun h4 => ?_)
        · skip
          replace h4 := bnot_t h4
          first | (exfalso; omega) | (simp [bcmp] at h4; done)
        · skip
          replace h4 := bnot_f h4
          refine V.skip ?_
          refine VE.then_wp ?_
          refine V.seq ?_
          refine V.region ?_
          refine VL.r (.inl rfl) rfl (by decide) (yr_assign (u := .int .i64 1) rfl rfl) ?_
          refine VL.nil ?_
          refine VE.then_wp ?_
          refine V.seq ?_
          refine V.region ?_
          refine VL.q (.inl rfl) rfl (by decide) (yq_loadS rfl Try.underlying48 sz48_Sign rfl (by first | exact Sees.root (by assumption) | exact Sees.own (by repeat (first | exact List.mem_cons_self | exact List.mem_append_left _ (by assumption) | apply List.mem_cons_of_mem | apply List.mem_append_right)) | exact Sees.root (hR _ (by omega)) | exact Sees.own (RowsIn.mem (by repeat (first | exact RowsIn.here | exact RowsIn.last | apply RowsIn.there | apply RowsIn.thereS)) _ (by omega)) | exact Sees.own (WRowsIn.mem (by repeat (first | exact WRowsIn.here | exact WRowsIn.last | apply WRowsIn.there | apply WRowsIn.thereS)) _ (by omega))) rfl rfl rfl) ?_
          refine VL.r (.inl rfl) rfl (by decide) (yr_move rfl rfl) ?_
          refine VL.c (.inl rfl) rfl (by decide) (yc_callf rfl known30_Sign (.cons rfl (.cons rfl .nil)) (by apply Pick.four; all_goals (repeat (first | exact Rem.here | exact Rem.all | exact Rem.hereS | apply Rem.there | apply Rem.thereS))) (c_markDesign (by omega) (by omega) (by omega))) ?_
          rintro ⟨⟩
          refine VL.r (.inl rfl) rfl (by decide) (yr_assign rfl rfl) ?_
          refine VL.nil ?_
          refine VE.then_wp ?_
          refine V.seq ?_
          refine V.seq ?_
          refine V.region ?_
          refine VL.r (.inl rfl) rfl (by decide) (yr_move rfl rfl) ?_
          refine VL.r (.inl rfl) rfl (by decide) (yr_icmp rfl (.inr (.inr (.inl rfl))) rfl rfl) ?_
          refine VL.r (.inl rfl) rfl (by decide) (yr_move rfl rfl) ?_
          refine VX.split 59 _ rfl (fun h5 => ?_) (fun h5 => ?_)
          · skip
            replace h5 := ic_lss h5
            first | (exfalso; omega) | (simp [bcmp] at h5; done)
          · skip
            replace h5 := ic_lss' h5
            refine VL.r (.inr ⟨_, _, _, rfl, rfl, rfl⟩) rfl (by decide) (yr_move rfl rfl) ?_
            refine VL.r (.inr ⟨_, _, _, rfl, rfl, rfl⟩) rfl (by decide) (yr_move rfl rfl) ?_
            refine VL.q (.inr ⟨_, _, _, rfl, rfl, rfl⟩) rfl (by decide) (yq_callf rfl known18_Sign (.cons rfl (.cons rfl .nil)) (fun w hw => c_eqF (by first | exact Sees.root (by assumption) w hw | exact Sees.own (by repeat (first | exact List.mem_cons_self | exact List.mem_append_left _ (by assumption) | apply List.mem_cons_of_mem | apply List.mem_append_right)) w hw) (by first | exact Sees.root (by assumption) w hw | exact Sees.own (by repeat (first | exact List.mem_cons_self | exact List.mem_append_left _ (by assumption) | apply List.mem_cons_of_mem | apply List.mem_append_right)) w hw) (by first | assumption | exact can_up _ | exact can_fop _ _ _ _ | exact can_of _ (by assumption)) (by first | assumption | exact can_up _ | exact can_fop _ _ _ _ | exact can_of _ (by assumption)) (by omega))) ?_
            refine VL.r (.inr ⟨_, _, _, rfl, rfl, rfl⟩) rfl (by decide) (yr_not rfl rfl) ?_
            refine VL.r (.inl rfl) rfl (by decide) (yr_pick_f rfl rfl rfl) ?_
            refine VL.r (.inl rfl) rfl (by decide) (yr_move rfl rfl) ?_
            refine VX.split 65 _ rfl (fun h6 => ?_) (fun h6 => ?_)
            · skip
              replace h6 := bnot_t h6
              first | (exfalso; omega) | (simp [bcmp] at h6; done)
            · skip
              replace h6 := bnot_f h6
              refine VL.r (.inr ⟨_, _, _, rfl, rfl, rfl⟩) rfl (by decide) (yr_move rfl rfl) ?_
              refine VL.r (.inr ⟨_, _, _, rfl, rfl, rfl⟩) rfl (by decide) (yr_move rfl rfl) ?_
              refine VL.r (.inr ⟨_, _, _, rfl, rfl, rfl⟩) rfl (by decide) (yr_bcmp rfl Try.underlying4 rfl rfl (.inr rfl)) ?_
              refine VL.r (.inl rfl) rfl (by decide) (yr_pick_f rfl rfl rfl) ?_
              refine VL.nil ?_
              refine VE.then_wp ?_
              refine V.cond rfl (fun h7 => ?_) (fun h7 => ?_)
              · skip
                first | (exfalso; omega) | (simp [bcmp] at h7; done)
              · skip
                refine V.skip ?_
                refine VE.then_wp ?_
                refine V.seq ?_
                refine V.region ?_
                refine VL.r (.inl rfl) rfl (by decide) (yr_assign (u := .int .i64 1) rfl rfl) ?_
                refine VL.nil ?_
                refine VE.then_wp ?_
                refine V.seq ?_
                refine V.region ?_
                refine VL.r (.inl rfl) rfl (by decide) (yr_move rfl rfl) ?_
                refine VL.r (.inl rfl) rfl (by decide) (yr_move rfl rfl) ?_
                refine VL.c (.inl rfl) rfl (by decide) (yc_callf rfl known21_Sign (.cons rfl (.cons rfl .nil)) (by apply Pick.one; repeat (first | exact Rem.here | apply Rem.there | apply Rem.thereS)) (c_markF (by omega) (by omega) (by omega))) ?_
                rintro ⟨⟩
                refine VL.r (.inl rfl) rfl (by decide) (yr_assign rfl rfl) ?_
                refine VL.nil ?_
                refine VE.then_wp ?_
                refine V.seq ?_
                refine V.region ?_
                refine VL.r (.inl rfl) rfl (by decide) (yr_assign (u := .int .i64 1) rfl rfl) ?_
                refine VL.nil ?_
                refine VE.then_wp ?_
                refine V.seq ?_
                refine V.region ?_
                refine VL.r (.inl rfl) rfl (by decide) (yr_move rfl rfl) ?_
                refine VL.r (.inl rfl) rfl (by decide) (yr_move rfl rfl) ?_
                refine VL.q (.inl rfl) rfl (by decide) (yq_callf rfl known22_Sign (.cons rfl (.cons rfl .nil)) (fun w hw => c_heldF (by first | exact Sees.root (by assumption) w hw | exact Sees.own (by repeat (first | exact List.mem_cons_self | exact List.mem_append_left _ (by assumption) | apply List.mem_cons_of_mem | apply List.mem_append_right)) w hw) (by omega) (by omega) (by omega))) ?_
                refine VL.r (.inl rfl) rfl (by decide) (yr_assign rfl rfl) ?_
                refine VL.nil ?_
                refine VE.then_wp ?_
                refine V.seq ?_
                refine V.seq ?_
                refine V.region ?_
                refine VL.r (.inl rfl) rfl (by decide) (yr_move rfl rfl) ?_
                refine VL.r (.inl rfl) rfl (by decide) (yr_icmp rfl (.inr (.inr (.inl rfl))) rfl rfl) ?_
                refine VL.nil ?_
                refine VE.then_wp ?_
                refine V.cond rfl (fun h8 => ?_) (fun h8 => ?_)
                · skip
                  replace h8 := ic_lss h8
                  first | (exfalso; omega) | (simp [bcmp] at h8; done)
                · skip
                  replace h8 := ic_lss' h8
                  refine V.skip ?_
                  refine VE.then_wp ?_
                  refine V.seq ?_
                  refine V.seq ?_
                  refine V.region ?_
                  refine VL.r (.inl rfl) rfl (by decide) (yr_move rfl rfl) ?_
                  refine VL.r (.inl rfl) rfl (by decide) (yr_move rfl rfl) ?_
                  refine VL.r (.inl rfl) rfl (by decide) (yr_icmp rfl (.inr (.inl rfl)) rfl rfl) ?_
                  refine VL.nil ?_
                  refine VE.then_wp ?_
                  refine V.cond rfl (fun h9 => ?_) (fun h9 => ?_)
                  · skip
                    replace h9 := ic_neq h9
                    first | (exfalso; omega) | (simp [bcmp] at h9; done)
                  · skip
                    replace h9 := ic_neq' h9
                    refine V.skip ?_
                    refine VE.then_wp ?_
                    refine V.seq ?_
                    refine V.region ?_
                    refine VL.q (.inl rfl) rfl (by decide) (yq_loadS rfl Try.underlying46 sz46_Sign rfl (by first | exact Sees.root (by assumption) | exact Sees.own (by repeat (first | exact List.mem_cons_self | exact List.mem_append_left _ (by assumption) | apply List.mem_cons_of_mem | apply List.mem_append_right)) | exact Sees.root (hR _ (by omega)) | exact Sees.own (RowsIn.mem (by repeat (first | exact RowsIn.here | exact RowsIn.last | apply RowsIn.there | apply RowsIn.thereS)) _ (by omega)) | exact Sees.own (WRowsIn.mem (by repeat (first | exact WRowsIn.here | exact WRowsIn.last | apply WRowsIn.there | apply WRowsIn.thereS)) _ (by omega))) rfl rfl rfl) ?_
                    refine VL.new (.inl rfl) rfl (by decide) (yn_callf rfl known27_Sign (.cons rfl .nil) (fun w hw => (c_toDesign (by first | exact Sees.root (by assumption) w hw | exact Sees.own (by repeat (first | exact List.mem_cons_self | exact List.mem_append_left _ (by assumption) | apply List.mem_cons_of_mem | apply List.mem_append_right)) w hw) (by first | exact Rws.root (by assumption) hw | exact Rws.own (by repeat (first | exact RowsIn.here | exact RowsIn.last | apply RowsIn.there | apply RowsIn.thereS)) hw) (by first | exact Sees.root (by assumption) w hw | exact Sees.own (by repeat (first | exact List.mem_cons_self | exact List.mem_append_left _ (by assumption) | apply List.mem_cons_of_mem | apply List.mem_append_right)) w hw) (by first | exact Sees.root (by assumption) w hw | exact Sees.own (by repeat (first | exact List.mem_cons_self | exact List.mem_append_left _ (by assumption) | apply List.mem_cons_of_mem | apply List.mem_append_right)) w hw) (by omega)))) ?_
                    rintro ⟨⟨b83, f83⟩, ⟨a83, c83⟩, ⟨d83, e83⟩⟩
                    refine VL.r (.inl rfl) rfl (by decide) (yr_move rfl rfl) ?_
                    refine VL.r (.inl rfl) rfl (by decide) (yr_move rfl rfl) ?_
                    refine VL.new1 (.inl rfl) rfl (by decide) (yn_callf rfl known33_Sign (.cons rfl (.cons rfl (.cons rfl .nil))) (fun w hw => (c_implSign (by first | exact Sees.root (by assumption) w hw | exact Sees.own (by repeat (first | exact List.mem_cons_self | exact List.mem_append_left _ (by assumption) | apply List.mem_cons_of_mem | apply List.mem_append_right)) w hw) (by first | exact Rws.root (by assumption) hw | exact Rws.own (by repeat (first | exact RowsIn.here | exact RowsIn.last | apply RowsIn.there | apply RowsIn.thereS)) hw) (by first | exact Sees.root (by assumption) w hw | exact Sees.own (by repeat (first | exact List.mem_cons_self | exact List.mem_append_left _ (by assumption) | apply List.mem_cons_of_mem | apply List.mem_append_right)) w hw) (by first | exact Sees.root (by assumption) w hw | exact Sees.own (by repeat (first | exact List.mem_cons_self | exact List.mem_append_left _ (by assumption) | apply List.mem_cons_of_mem | apply List.mem_append_right)) w hw) (by omega)))) ?_
                    rintro ⟨a86, c86⟩
                    refine VL.r (.inl rfl) rfl (by decide) (yr_move rfl rfl) ?_
                    refine VL.r (.inl rfl) rfl (by decide) (yr_extract rfl rfl rfl (by nofun)) ?_
                    refine VL.r (.inl rfl) rfl (by decide) (yr_extract rfl rfl rfl (by nofun)) ?_
                    refine VL.r (.inl rfl) rfl (by decide) (yr_assign rfl rfl) ?_
                    refine VL.r (.inl rfl) rfl (by decide) (yr_assign rfl rfl) ?_
                    refine VL.nil ?_
                    refine VE.then_wp ?_
                    refine V.seq ?_
                    refine V.seq ?_
                    refine V.region ?_
                    refine VL.r (.inl rfl) rfl (by decide) (yr_move rfl rfl) ?_
                    refine VL.r (.inl rfl) rfl (by decide) (yr_move rfl rfl) ?_
                    refine VL.q (.inl rfl) rfl (by decide) (yq_callf rfl known18_Sign (.cons rfl (.cons rfl .nil)) (fun w hw => c_eqF (by first | exact Sees.root (by assumption) w hw | exact Sees.own (by repeat (first | exact List.mem_cons_self | exact List.mem_append_left _ (by assumption) | apply List.mem_cons_of_mem | apply List.mem_append_right)) w hw) (by first | exact Sees.root (by assumption) w hw | exact Sees.own (by repeat (first | exact List.mem_cons_self | exact List.mem_append_left _ (by assumption) | apply List.mem_cons_of_mem | apply List.mem_append_right)) w hw) (by first | assumption | exact can_up _ | exact can_fop _ _ _ _ | exact can_of _ (by assumption)) (by first | assumption | exact can_up _ | exact can_fop _ _ _ _ | exact can_of _ (by assumption)) (by omega))) ?_
                    refine VL.r (.inl rfl) rfl (by decide) (yr_not rfl rfl) ?_
                    refine VL.r (.inl rfl) rfl (by decide) (yr_move rfl rfl) ?_
                    refine VX.split 93 _ rfl (fun h10 => ?_) (fun h10 => ?_)
                    · skip
                      replace h10 := bnot_t h10
                      first | (exfalso; omega) | (simp [bcmp] at h10; done)
                    · skip
                      replace h10 := bnot_f h10
                      refine VL.r (.inr ⟨_, _, _, rfl, rfl, rfl⟩) rfl (by decide) (yr_move rfl rfl) ?_
                      refine VL.r (.inr ⟨_, _, _, rfl, rfl, rfl⟩) rfl (by decide) (yr_move rfl rfl) ?_
                      refine VL.r (.inr ⟨_, _, _, rfl, rfl, rfl⟩) rfl (by decide) (yr_bcmp rfl Try.underlying4 rfl rfl (.inr rfl)) ?_
                      refine VL.r (.inl rfl) rfl (by decide) (yr_pick_f rfl rfl rfl) ?_
                      refine VL.nil ?_
                      refine VE.then_wp ?_
                      refine V.cond rfl (fun h11 => ?_) (fun h11 => ?_)
                      · skip
                        first | (exfalso; omega) | (simp [bcmp] at h11; done)
                      · skip
                        refine V.skip ?_
                        refine VE.then_wp ?_
                        refine V.seq ?_
                        refine V.region ?_
                        refine VL.r (.inl rfl) rfl (by decide) (yr_assign (u := .int .i64 1) rfl rfl) ?_
                        refine VL.nil ?_
                        refine VE.then_wp ?_
                        refine V.seq ?_
                        refine V.region ?_
                        refine VL.r (.inl rfl) rfl (by decide) (yr_move rfl rfl) ?_
                        refine VL.r (.inl rfl) rfl (by decide) (yr_move rfl rfl) ?_
                        refine VL.q (.inl rfl) rfl (by decide) (yq_callf rfl known22_Sign (.cons rfl (.cons rfl .nil)) (fun w hw => c_heldF (by first | exact Sees.root (by assumption) w hw | exact Sees.own (by repeat (first | exact List.mem_cons_self | exact List.mem_append_left _ (by assumption) | apply List.mem_cons_of_mem | apply List.mem_append_right)) w hw) (by omega) (by omega) (by omega))) ?_
                        refine VL.r (.inl rfl) rfl (by decide) (yr_assign rfl rfl) ?_
                        refine VL.nil ?_
                        refine VE.then_wp ?_
                        refine V.seq ?_
                        refine V.seq ?_
                        refine V.region ?_
                        refine VL.r (.inl rfl) rfl (by decide) (yr_move rfl rfl) ?_
                        refine VL.r (.inl rfl) rfl (by decide) (yr_icmp rfl (.inr (.inr (.inl rfl))) rfl rfl) ?_
                        refine VL.nil ?_
                        refine VE.then_wp ?_
                        refine V.cond rfl (fun h12 => ?_) (fun h12 => ?_)
                        · skip
                          replace h12 := ic_lss h12
                          first | (exfalso; omega) | (simp [bcmp] at h12; done)
                        · skip
                          replace h12 := ic_lss' h12
                          refine V.skip ?_
                          refine VE.then_wp ?_
                          refine V.seq ?_
                          refine V.seq ?_
                          refine V.region ?_
                          refine VL.r (.inl rfl) rfl (by decide) (yr_move rfl rfl) ?_
                          refine VL.r (.inl rfl) rfl (by decide) (yr_move rfl rfl) ?_
                          refine VL.r (.inl rfl) rfl (by decide) (yr_icmp rfl (.inr (.inl rfl)) rfl rfl) ?_
                          refine VL.nil ?_
                          refine VE.then_wp ?_
                          refine V.cond rfl (fun h13 => ?_) (fun h13 => ?_)
                          · skip
                            replace h13 := ic_neq h13
                            first | (exfalso; omega) | (simp [bcmp] at h13; done)
                          · skip
                            replace h13 := ic_neq' h13
                            refine V.skip ?_
                            refine VE.then_wp ?_
                            refine V.seq ?_
                            refine V.region ?_
                            refine VL.r (.inl rfl) rfl (by decide) (yr_assign (u := .bool true) rfl rfl) ?_
                            refine VL.nil ?_
                            refine VE.then_wp ?_
                            refine V.ret ?_
                            refine ret1 rfl rfl (fun w1 hw => ?_)
                            exact ⟨rfl, hw.below⟩

end Go.Proofs.Ytacjcomjnabmhaa
