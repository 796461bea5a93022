/- Own texts of this claim, merged: WJr. -/
import Derived.KernelRfl
import Derived.Test.YtmecikeaogjmpaaDoorKFnExactRecoverJournal2
namespace Go.Proofs.YtmecikeaogjmpaaDoor
open Go.RowKit
set_option linter.unusedVariables false
set_option linter.unusedSimpArgs false
set_option maxRecDepth 20000

theorem elt5_Jr : Elt Tryd.prog 5 [Value.int .u8 0] 1 := Elt.mk' (by kernel_rfl) (by decide)
theorem known33_Jr : Known Tryd.prog 33 := Known.mk' Tryd.func33 (by kernel_rfl)
theorem sz9_Jr : (Tryd.prog.info? 9).map (·.size) = some 1 := by kernel_rfl
theorem mixed_Jr : Tryd.prog.follows .mixedOrders = true := by kernel_rfl
theorem fb9_Jr : flatB Tryd.prog 9 = true := by kernel_rfl
theorem known43_Jr : Known Tryd.prog 43 := Known.mk' Tryd.func43 (by kernel_rfl)
theorem known45_Jr : Known Tryd.prog 45 := Known.mk' Tryd.func45 (by kernel_rfl)
theorem elt9_Jr : Elt Tryd.prog 9 [Value.string ⟨#[]⟩] 16 := Elt.mk' (by kernel_rfl) (by decide)
theorem known46_Jr : Known Tryd.prog 46 := Known.mk' Tryd.func46 (by kernel_rfl)
theorem known47_Jr : Known Tryd.prog 47 := Known.mk' Tryd.func47 (by kernel_rfl)
theorem known26_Jr : Known Tryd.prog 26 := Known.mk' Tryd.func26 (by kernel_rfl)
theorem known28_Jr : Known Tryd.prog 28 := Known.mk' Tryd.func28 (by kernel_rfl)
theorem known32_Jr : Known Tryd.prog 32 := Known.mk' Tryd.func32 (by kernel_rfl)
theorem known22_Jr : Known Tryd.prog 22 := Known.mk' Tryd.func22 (by kernel_rfl)
theorem known40_Jr : Known Tryd.prog 40 := Known.mk' Tryd.func40 (by kernel_rfl)
theorem known41_Jr : Known Tryd.prog 41 := Known.mk' Tryd.func41 (by kernel_rfl)
theorem known31_Jr : Known Tryd.prog 31 := Known.mk' Tryd.func31 (by kernel_rfl)
theorem known14_Jr : Known Tryd.prog 14 := Known.mk' Tryd.func14 (by kernel_rfl)
theorem known15_Jr : Known Tryd.prog 15 := Known.mk' Tryd.func15 (by kernel_rfl)
theorem known13_Jr : Known Tryd.prog 13 := Known.mk' Tryd.func13 (by kernel_rfl)
theorem known16_Jr : Known Tryd.prog 16 := Known.mk' Tryd.func16 (by kernel_rfl)
theorem known17_Jr : Known Tryd.prog 17 := Known.mk' Tryd.func17 (by kernel_rfl)
attribute [local irreducible] lnB mt dN chkK num txt fnd good go recO recN rO rN rB scmp List.getD stb

theorem c_markText {w : World} {n : Nat} (hn : n ≤ 4000000) : Pure Tryd.prog 33 [.int .i64 (n : Int)] w (.string (mt n)) := by
  refine Pure.enter Tryd.func33 rfl Tryd.ntmps33 (Nat.le_of_ble_eq_true rfl) ?_
  refine V.seq ?_
  refine V.region ?_
  refine VL.r (.inl rfl) rfl (by decide) (yr_assign rfl rfl) ?_
  refine VL.nil ?_
  refine VE.then_wp ?_
  refine V.seq ?_
  refine V.seq ?_
  refine V.region ?_
  refine VL.r (.inl rfl) rfl (by decide) (yr_move rfl rfl) ?_
  refine VL.r (.inl rfl) rfl (by decide) (yr_icmp rfl (.inr (.inr (.inr (.inl rfl)))) rfl rfl) ?_
  refine VL.nil ?_
  refine VE.then_wp ?_
  refine V.cond rfl (fun h1 => ?_) (fun h1 => ?_)
  · skip
    replace h1 := ic_leq h1
    refine V.seq ?_
    refine V.region ?_
    refine VL.r (.inl rfl) rfl (by decide) (yr_assign rfl rfl) ?_
    refine VL.nil ?_
    refine VE.then_wp ?_
    refine V.ret ?_
    refine VE.then_ret ?_
    refine ret1 rfl rfl (fun w1 hw => ?_)
    first
      | (obtain rfl : n = 0 := by omega
         exact ⟨by rw [mt_0]; rfl, hw.below⟩)
      | (obtain rfl : v = 0 := by omega
         exact ⟨by rw [decI_end hD (by omega), mt_s (by omega)], hw.below⟩)
  · skip
    replace h1 := ic_leq' h1
    refine V.skip ?_
    refine VE.then_wp ?_
    refine V.seq ?_
    refine V.region ?_
    refine VL.r (.inl rfl) rfl (by decide) (yr_assign rfl rfl) ?_
    refine VL.nil ?_
    refine VE.then_wp ?_
    refine V.seq ?_
    refine V.block ?_
    refine V.loops (G := Nat × (List Int)) [] (fun ⟨v, t⟩ => DecI n v t ∧ (v = n ∨ t.length ≠ 0) ∧ v ≤ n) (fun ⟨v, t⟩ => [(0, .int .i64 (v : Int)), (3, .string (stb t))]) (fun ⟨v, t⟩ => v) (n, []) .nil (.cons rfl (.cons (by rw [stb_nil]; rfl) .nil)) ?_ ?_
    · exact (by exact ⟨decI_0 n, .inl rfl, Nat.le_refl _⟩)
    rintro ⟨v, t⟩ ⟨hD, hl9, hv9⟩
    show V _ _ _ _ ([(0, .int .i64 (v : Int)), (3, .string (stb t))] ++ []) _ _
    refine V.seq ?_
    refine V.seq ?_
    refine V.region ?_
    refine VL.r (.inl rfl) rfl (by decide) (yr_move rfl rfl) ?_
    refine VL.r (.inl rfl) rfl (by decide) (yr_icmp rfl (.inr (.inr (.inr (.inr (.inl rfl))))) rfl rfl) ?_
    refine VL.nil ?_
    refine VE.then_wp ?_
    refine V.cond rfl (fun h2 => ?_) (fun h2 => ?_)
    · skip
      replace h2 := ic_gtr h2
      refine V.skip ?_
      refine VE.then_wp ?_
      refine V.block ?_
      refine V.seq ?_
      refine V.region ?_
      refine VL.r (.inl rfl) rfl (by decide) (yr_move rfl rfl) ?_
      refine VL.r (.inl rfl) rfl (by decide) (yr_remN (v) 10 rfl rfl rfl rfl rfl (by omega)) ?_
      refine VL.r (.inl rfl) rfl (by decide) (yr_addN (48 + v % 10) rfl rfl rfl (by omega) (by omega)) ?_
      refine VL.r (.inl rfl) rfl (by decide) (yr_intConv rfl Tryd.underlying2 Tryd.underlying5 rfl (u8_nat (by omega))) ?_
      refine VL.new1 (.inl rfl) rfl (by decide) (yn_lit rfl Tryd.underlying34 elt5_Jr rfl (by decide) (.cons rfl .nil) (by first | (simp; done) | (simp [cn, cn1, cn0]; done)) rfl rfl rfl) ?_
      intro b12
      refine VL.q (.inl rfl) rfl (by decide) (yq_bts (bs := [((48 + v % 10 : Nat) : Int)]) rfl Tryd.underlying34 Tryd.underlying5 Tryd.underlying9 rfl (by first | exact Sees.root (by assumption) | exact Sees.own (by repeat (first | exact List.mem_cons_self | exact List.mem_append_left _ (by assumption) | apply List.mem_cons_of_mem | apply List.mem_append_right)) | exact Sees.root (hR _ (by omega)) | exact Sees.own (RowsIn.mem (by repeat (first | exact RowsIn.here | exact RowsIn.last | apply RowsIn.there | apply RowsIn.thereS)) _ (by omega)) | exact Sees.own (WRowsIn.mem (by repeat (first | exact WRowsIn.here | exact WRowsIn.last | apply WRowsIn.there | apply WRowsIn.thereS)) _ (by omega))) rfl) ?_
      refine VL.r (.inl rfl) rfl (by decide) (yr_move rfl rfl) ?_
      refine VL.r (.inl rfl) rfl (by decide) (yr_strAdd (c := stb (((48 + v % 10 : Nat) : Int) :: t)) rfl rfl rfl (by rw [stb_size, stb_size]; have := decI_len hD; simp only [List.length_singleton]; omega) (stb_append [_] t)) ?_
      refine VL.r (.inl rfl) rfl (by decide) (yr_assign rfl rfl) ?_
      refine VL.nil ?_
      refine VE.then_wp ?_
      refine V.region ?_
      refine VL.r (.inl rfl) rfl (by decide) (yr_move rfl rfl) ?_
      refine VL.r (.inl rfl) rfl (by decide) (yr_quoN (v) 10 rfl rfl rfl rfl rfl (by omega) (by omega)) ?_
      refine VL.r (.inl rfl) rfl (by decide) (yr_assign rfl rfl) ?_
      refine VL.nil ?_
      refine VE.block_normal ?_
      refine VE.round (v / 10, ((48 + v % 10 : Nat) : Int) :: t) ?_ ?_ ?_ ?_ ?_
      · exact (.cons rfl (.cons rfl .nil))
      · exact .nil
      · exact (fun w hw => hw.sub (List.nil_sublist _))
      · exact ⟨decI_step hD (by omega), .inr (by simp), by omega⟩
      · (try dsimp only); omega
    · skip
      replace h2 := ic_gtr' h2
      refine V.exit ?_
      refine VE.then_exit ?_
      refine VE.then_exit ?_
      refine VE.block_here ?_
      refine VE.then_wp ?_
      refine V.seq ?_
      refine V.region ?_
      refine VL.r (.inl rfl) rfl (by decide) (yr_move rfl rfl) ?_
      refine VL.r (.inl rfl) rfl (by decide) (yr_strAdd (c := stb (109 :: t)) rfl rfl rfl (by rw [stb_size]; have := decI_len hD; show 1 + _ ≤ _; omega) (cat_m t)) ?_
      refine VL.r (.inl rfl) rfl (by decide) (yr_assign rfl rfl) ?_
      refine VL.nil ?_
      refine VE.then_wp ?_
      refine V.ret ?_
      refine ret1 rfl rfl (fun w1 hw => ?_)
      first
        | (obtain rfl : n = 0 := by omega
           exact ⟨by rw [mt_0]; rfl, hw.below⟩)
        | (obtain rfl : v = 0 := by omega
           exact ⟨by rw [decI_end hD (by omega), mt_s (by omega)], hw.below⟩)

theorem c_markStr {w0 : World} {a : Option Addr} {c cap : Nat} {ss : List ByteArray} {k0 : Nat} (hk0 : k0 ≤ 1000000) (hn : ss.length ≤ 1050000) : Mut Tryd.prog 16 [.slice a ss.length c, .int .i64 (k0 : Int)] w0 [⟨a, sx ss, cap, 9⟩] (fun _ : Unit => .int .i64 ((k0 + ss.length : Nat) : Int)) (fun _ => [⟨a, sx (mts k0 ss.length), cap, 9⟩]) := by
  refine Mut.enter Tryd.func16 rfl Tryd.ntmps16 (Nat.le_of_ble_eq_true rfl) ?_
  intro F
  refine V.seq ?_
  refine V.region ?_
  refine VL.r (.inl rfl) rfl (by decide) (yr_assign (u := .int .i64 0) rfl rfl) ?_
  refine VL.nil ?_
  refine VE.then_wp ?_
  refine V.seq ?_
  refine V.seq ?_
  refine V.region ?_
  refine VL.r (.inl rfl) rfl (by decide) (yr_assign (u := .int .i64 0) rfl rfl) ?_
  refine VL.nil ?_
  refine VE.then_wp ?_
  refine V.block ?_
  refine V.loopc (G := Nat × (List ByteArray)) [(0, _)] (fun ⟨k, ys⟩ => k ≤ ss.length ∧ ys.length = ss.length ∧ ys.take k = mts k0 k) (fun ⟨k, ys⟩ => (F ++ [⟨a, sx ys, cap, 9⟩])) (fun ⟨k, ys⟩ => [(1, .int .i64 ((k0 + k : Nat) : Int)), (5, .int .i64 (k : Int))]) (fun ⟨k, ys⟩ => ss.length - k) (0, ss) (.cons rfl .nil) (.cons (congrArg (fun i => some (Value.int .i64 i)) (by omega)) (.cons rfl .nil)) ?_ ?_ ?_
  · exact (fun w hw => hw)
  · exact (by simp [mts])
  rintro ⟨k, ys⟩ ⟨hk, hl, ht⟩
  show V _ _ _ (F ++ [⟨a, sx ys, cap, 9⟩]) ([(1, .int .i64 ((k0 + k : Nat) : Int)), (5, .int .i64 (k : Int))] ++ [(0, _)]) _ _
  refine V.seq ?_
  refine V.seq ?_
  refine V.region ?_
  refine VL.r (.inl rfl) rfl (by decide) (yr_move rfl rfl) ?_
  refine VL.r (.inl rfl) rfl (by decide) (yr_move rfl rfl) ?_
  refine VL.r (.inl rfl) rfl (by decide) (yr_len rfl Tryd.underlying25 rfl) ?_
  refine VL.r (.inl rfl) rfl (by decide) (yr_icmp rfl (.inr (.inr (.inl rfl))) rfl rfl) ?_
  refine VL.nil ?_
  refine VE.then_wp ?_
  refine V.cond rfl (fun h1 => ?_) (fun h1 => ?_)
  · skip
    replace h1 := ic_lss h1
    refine V.skip ?_
    refine VE.then_wp ?_
    refine V.seq ?_
    refine V.block ?_
    refine V.seq ?_
    refine V.region ?_
    refine VL.r (.inl rfl) rfl (by decide) (yr_move rfl rfl) ?_
    refine VL.r (.inl rfl) rfl (by decide) (yr_move rfl rfl) ?_
    refine VL.r (.inl rfl) rfl (by decide) (yr_move rfl rfl) ?_
    refine VL.q (.inl rfl) rfl (by decide) (yq_callf rfl known33_Jr (.cons rfl .nil) (fun w hw => (c_markText (by omega)))) ?_
    refine VL.q (.inl rfl) rfl (by decide) (yq_idx (k := k) rfl Tryd.underlying25 sz9_Jr rfl rfl (by first | exact Sees.root (by assumption) | exact Sees.own (by repeat (first | exact List.mem_cons_self | exact List.mem_append_left _ (by assumption) | apply List.mem_cons_of_mem | apply List.mem_append_right)) | exact Sees.root (hR _ (by omega)) | exact Sees.own (RowsIn.mem (by repeat (first | exact RowsIn.here | exact RowsIn.last | apply RowsIn.there | apply RowsIn.thereS)) _ (by omega)) | exact Sees.own (WRowsIn.mem (by repeat (first | exact WRowsIn.here | exact WRowsIn.last | apply WRowsIn.there | apply WRowsIn.thereS)) _ (by omega))) (by first | rfl | omega | (push_cast; rfl) | (push_cast; omega) | exact tmod_nat _ _) (by first | exact sx_length _ | (rw [sx_length]; omega)) (by omega)) ?_
    refine VL.s (.inl rfl) rfl (yc_store rfl sz9_Jr rfl rfl (by repeat (first | exact UpdF.here | apply UpdF.there | apply UpdF.thereS)) (.inl ⟨rfl, rfl⟩) rfl (by rw [sx_length]; omega) (by decide) (sx_set _ _ _)) ?_
    rintro ⟨⟩
    refine VL.nil ?_
    refine VE.then_wp ?_
    refine V.region ?_
    refine VL.r (.inl rfl) rfl (by decide) (yr_move rfl rfl) ?_
    refine VL.r (.inl rfl) rfl (by decide) (yr_int rfl rfl rfl (.inl ⟨rfl, wrap_in (by omega)⟩)) ?_
    refine VL.r (.inl rfl) rfl (by decide) (yr_assign rfl rfl) ?_
    refine VL.nil ?_
    refine VE.block_normal ?_
    refine VE.then_wp ?_
    refine V.region ?_
    refine VL.r (.inl rfl) rfl (by decide) (yr_move rfl rfl) ?_
    refine VL.r (.inl rfl) rfl (by decide) (yr_int rfl rfl rfl (.inl ⟨rfl, wrap_in (by omega)⟩)) ?_
    refine VL.r (.inl rfl) rfl (by decide) (yr_assign rfl rfl) ?_
    refine VL.nil ?_
    refine VE.round (k + 1, ys.set k (mt (k0 + k))) ?_ ?_ ?_ ?_ ?_
    · exact (.cons (congrArg (fun i => some (Value.int .i64 i)) (by omega)) (.cons rfl .nil))
    · exact (.cons rfl .nil)
    · exact (fun w hw => hw)
    · exact ⟨by omega, by simp [hl], take_mts hl ht (by omega)⟩
    · (try dsimp only); omega
  · skip
    replace h1 := ic_lss' h1
    refine V.exit ?_
    refine VE.then_exit ?_
    refine VE.then_exit ?_
    refine VE.block_here ?_
    refine VE.then_wp ?_
    refine V.seq ?_
    refine V.region ?_
    refine VL.r (.inl rfl) rfl (by decide) (yr_move rfl rfl) ?_
    refine VL.r (.inl rfl) rfl (by decide) (yr_assign rfl rfl) ?_
    refine VL.nil ?_
    refine VE.then_wp ?_
    refine V.ret ?_
    refine ret1 rfl rfl (fun w1 hw => ?_)
    have hke := mts_all hl ht (by omega) hk
    have hkn : k = ss.length := by omega
    subst hke
    subst hkn
    exact ⟨(), rfl, hw⟩

theorem c_heldStr {w : World} {a : Option Addr} {c n : Nat} {k0 : Nat} (hA : Cl w a (sx (mts k0 n))) (hk0 : k0 ≤ 1000000) (hn : n ≤ 1050000) : Pure Tryd.prog 17 [.slice a n c, .int .i64 (k0 : Int)] w (.int .i64 ((k0 + n : Nat) : Int)) := by
  refine Pure.enter Tryd.func17 rfl Tryd.ntmps17 (Nat.le_of_ble_eq_true rfl) ?_
  refine V.seq ?_
  refine V.region ?_
  refine VL.r (.inl rfl) rfl (by decide) (yr_assign (u := .int .i64 0) rfl rfl) ?_
  refine VL.nil ?_
  refine VE.then_wp ?_
  refine V.seq ?_
  refine V.seq ?_
  refine V.region ?_
  refine VL.r (.inl rfl) rfl (by decide) (yr_assign (u := .int .i64 0) rfl rfl) ?_
  refine VL.nil ?_
  refine VE.then_wp ?_
  refine V.block ?_
  refine V.loops (G := Nat) [(0, _)] (fun (k : Nat) => k ≤ n) (fun (k : Nat) => [(1, .int .i64 ((k0 + k : Nat) : Int)), (5, .int .i64 (k : Int))]) (fun (k : Nat) => n - k) 0 (.cons rfl .nil) (.cons (congrArg (fun i => some (Value.int .i64 i)) (by omega)) (.cons rfl .nil)) ?_ ?_
  · exact (by simp)
  rintro k hk
  show V _ _ _ _ ([(1, .int .i64 ((k0 + k : Nat) : Int)), (5, .int .i64 (k : Int))] ++ [(0, _)]) _ _
  refine V.seq ?_
  refine V.seq ?_
  refine V.region ?_
  refine VL.r (.inl rfl) rfl (by decide) (yr_move rfl rfl) ?_
  refine VL.r (.inl rfl) rfl (by decide) (yr_move rfl rfl) ?_
  refine VL.r (.inl rfl) rfl (by decide) (yr_len rfl Tryd.underlying25 rfl) ?_
  refine VL.r (.inl rfl) rfl (by decide) (yr_icmp rfl (.inr (.inr (.inl rfl))) rfl rfl) ?_
  refine VL.nil ?_
  refine VE.then_wp ?_
  refine V.cond rfl (fun h1 => ?_) (fun h1 => ?_)
  · skip
    replace h1 := ic_lss h1
    refine V.skip ?_
    refine VE.then_wp ?_
    refine V.seq ?_
    refine V.block ?_
    refine V.seq ?_
    refine V.seq ?_
    refine Dr.V.drawR [(0, 5), (1, 5), (2, 5), (3, 5), (4, 5), (5, 5), (6, 5)] [] [] _ mixed_Jr (by kernel_rfl) (fun w hw => hw) ?_
    refine Dr.SW.r rfl (.inl rfl) rfl (by decide) (yr_move rfl rfl) ?_
    refine Dr.SW.r rfl (.inl rfl) rfl (by decide) (yr_move rfl rfl) ?_
    refine Dr.SW.p rfl (.inl rfl) rfl (by decide) (yq_idx (k := k) rfl Tryd.underlying25 sz9_Jr rfl rfl (by first | exact Sees.root (by assumption) | exact Sees.own (by (try simp only [List.append_assoc, List.cons_append, List.nil_append]); repeat (first | exact List.mem_cons_self | exact List.mem_append_left _ (by assumption) | apply List.mem_cons_of_mem | apply List.mem_append_right)) | exact Sees.root (hR _ (by omega)) | exact Sees.own (RowsIn.mem (by (try simp only [List.append_assoc, List.cons_append, List.nil_append]); repeat (first | exact RowsIn.here | exact RowsIn.last | apply RowsIn.there | apply RowsIn.thereS)) _ (by omega)) | exact Sees.own (WRowsIn.mem (by (try simp only [List.append_assoc, List.cons_append, List.nil_append]); repeat (first | exact WRowsIn.here | exact WRowsIn.last | apply WRowsIn.there | apply WRowsIn.thereS)) _ (by omega))) (by first | rfl | omega | (push_cast; rfl) | (push_cast; omega) | exact tmod_nat _ _) (by rw [sx_length, mts_length]) (by first | omega | (rw [mts_length]; omega))) ?_
    refine Dr.SW.p rfl (.inl rfl) rfl (by decide) (yq_load (u := .string (mt (k0 + k))) rfl fb9_Jr rfl (by first | exact Sees.root (by assumption) | exact Sees.own (by (try simp only [List.append_assoc, List.cons_append, List.nil_append]); repeat (first | exact List.mem_cons_self | exact List.mem_append_left _ (by assumption) | apply List.mem_cons_of_mem | apply List.mem_append_right)) | exact Sees.root (hR _ (by omega)) | exact Sees.own (RowsIn.mem (by (try simp only [List.append_assoc, List.cons_append, List.nil_append]); repeat (first | exact RowsIn.here | exact RowsIn.last | apply RowsIn.there | apply RowsIn.thereS)) _ (by omega)) | exact Sees.own (WRowsIn.mem (by (try simp only [List.append_assoc, List.cons_append, List.nil_append]); repeat (first | exact WRowsIn.here | exact WRowsIn.last | apply WRowsIn.there | apply WRowsIn.thereS)) _ (by omega))) (mts_at (by omega))) ?_
    refine Dr.SW.r rfl (.inl rfl) rfl (by decide) (yr_move rfl rfl) ?_
    refine Dr.SW.p rfl (.inl rfl) rfl (by decide) (yq_callf rfl known33_Jr (.cons rfl .nil) (fun w hw => (c_markText (by omega)))) ?_
    refine Dr.SW.r rfl (.inl rfl) rfl (by decide) (yr_scmp rfl rfl rfl (.inr rfl)) ?_
    refine Dr.SW.done ?_
    refine Dr.eqO (by simp only [List.append_nil, List.append_assoc, List.cons_append, List.nil_append] <;> rfl) ?_
    refine VE.then_wp ?_
    refine V.cond rfl (fun h2 => ?_) (fun h2 => ?_)
    · skip
      refine V.seq ?_
      refine V.region ?_
      refine VL.r (.inl rfl) rfl (by decide) (yr_assign (u := .int .i64 (-1)) rfl rfl) ?_
      refine VL.nil ?_
      refine VE.then_wp ?_
      refine V.ret ?_
      refine VE.then_ret ?_
      refine VE.block_ret ?_
      refine VE.then_ret ?_
      refine VE.then_ret ?_
      refine VE.block_ret ?_
      refine VE.then_ret ?_
      refine ret1 rfl rfl (fun w1 hw => ?_)
      first
        | (exfalso; rename_i h9; rw [scmp_ne_self] at h9; cases h9)
        | (exfalso; simp only [scmp_ne_self] at *; contradiction)
        | (obtain rfl : k = n := by omega
           exact ⟨rfl, hw.below⟩)
    · skip
      refine V.skip ?_
      refine VE.then_wp ?_
      refine V.region ?_
      refine VL.r (.inl rfl) rfl (by decide) (yr_move rfl rfl) ?_
      refine VL.r (.inl rfl) rfl (by decide) (yr_int rfl rfl rfl (.inl ⟨rfl, wrap_in (by omega)⟩)) ?_
      refine VL.r (.inl rfl) rfl (by decide) (yr_assign rfl rfl) ?_
      refine VL.nil ?_
      refine VE.block_normal ?_
      refine VE.then_wp ?_
      refine V.region ?_
      refine VL.r (.inl rfl) rfl (by decide) (yr_move rfl rfl) ?_
      refine VL.r (.inl rfl) rfl (by decide) (yr_int rfl rfl rfl (.inl ⟨rfl, wrap_in (by omega)⟩)) ?_
      refine VL.r (.inl rfl) rfl (by decide) (yr_assign rfl rfl) ?_
      refine VL.nil ?_
      refine VE.round (k + 1) ?_ ?_ ?_ ?_ ?_
      · exact (.cons (congrArg (fun i => some (Value.int .i64 i)) (by omega)) (.cons rfl .nil))
      · exact (.cons rfl .nil)
      · exact (fun w hw => hw)
      · omega
      · (try dsimp only); omega
  · skip
    replace h1 := ic_lss' h1
    refine V.exit ?_
    refine VE.then_exit ?_
    refine VE.then_exit ?_
    refine VE.block_here ?_
    refine VE.then_wp ?_
    refine V.seq ?_
    refine V.region ?_
    refine VL.r (.inl rfl) rfl (by decide) (yr_move rfl rfl) ?_
    refine VL.r (.inl rfl) rfl (by decide) (yr_assign rfl rfl) ?_
    refine VL.nil ?_
    refine VE.then_wp ?_
    refine V.ret ?_
    refine ret1 rfl rfl (fun w1 hw => ?_)
    first
      | (exfalso; rename_i h9; rw [scmp_ne_self] at h9; cases h9)
      | (exfalso; simp only [scmp_ne_self] at *; contradiction)
      | (obtain rfl : k = n := by omega
         exact ⟨rfl, hw.below⟩)

theorem c_eqStr {w : World} {a b : Option Addr} {c d : Nat} {ss : List ByteArray} (hA : Cl w a (sx ss)) (hB : Cl w b (sx ss)) (hn : ss.length ≤ 1050000) : Pure Tryd.prog 13 [.slice a ss.length c, .slice b ss.length d] w (.bool true) := by
  refine Pure.enter Tryd.func13 rfl Tryd.ntmps13 (Nat.le_of_ble_eq_true rfl) ?_
  refine V.seq ?_
  refine V.region ?_
  refine VL.r (.inl rfl) rfl (by decide) (yr_assign (u := .bool false) rfl rfl) ?_
  refine VL.nil ?_
  refine VE.then_wp ?_
  refine V.seq ?_
  refine V.seq ?_
  refine V.region ?_
  refine VL.r (.inl rfl) rfl (by decide) (yr_move rfl rfl) ?_
  refine VL.r (.inl rfl) rfl (by decide) (yr_len rfl Tryd.underlying25 rfl) ?_
  refine VL.r (.inl rfl) rfl (by decide) (yr_move rfl rfl) ?_
  refine VL.r (.inl rfl) rfl (by decide) (yr_len rfl Tryd.underlying25 rfl) ?_
  refine VL.r (.inl rfl) rfl (by decide) (yr_icmp rfl (.inr (.inl rfl)) rfl rfl) ?_
  refine VL.nil ?_
  refine VE.then_wp ?_
  refine V.cond rfl (fun h1 => ?_) (fun h1 => ?_)
  · skip
    replace h1 := ic_neq h1
    exfalso; omega
  · skip
    replace h1 := ic_neq' h1
    refine V.skip ?_
    refine VE.then_wp ?_
    refine V.seq ?_
    refine V.seq ?_
    refine V.region ?_
    refine VL.r (.inl rfl) rfl (by decide) (yr_assign (u := .int .i64 0) rfl rfl) ?_
    refine VL.nil ?_
    refine VE.then_wp ?_
    refine V.block ?_
    refine V.loops (G := Nat) [(0, _), (1, _)] (fun (k : Nat) => k ≤ ss.length) (fun (k : Nat) => [(5, .int .i64 (k : Int))]) (fun (k : Nat) => ss.length - k) 0 (.cons rfl (.cons rfl .nil)) (.cons rfl .nil) ?_ ?_
    · exact (by simp)
    rintro k hk
    show V _ _ _ _ ([(5, .int .i64 (k : Int))] ++ [(0, _), (1, _)]) _ _
    refine V.seq ?_
    refine V.seq ?_
    refine V.region ?_
    refine VL.r (.inl rfl) rfl (by decide) (yr_move rfl rfl) ?_
    refine VL.r (.inl rfl) rfl (by decide) (yr_move rfl rfl) ?_
    refine VL.r (.inl rfl) rfl (by decide) (yr_len rfl Tryd.underlying25 rfl) ?_
    refine VL.r (.inl rfl) rfl (by decide) (yr_icmp rfl (.inr (.inr (.inl rfl))) rfl rfl) ?_
    refine VL.nil ?_
    refine VE.then_wp ?_
    refine V.cond rfl (fun h2 => ?_) (fun h2 => ?_)
    · skip
      replace h2 := ic_lss h2
      refine V.skip ?_
      refine VE.then_wp ?_
      refine V.seq ?_
      refine V.block ?_
      refine V.seq ?_
      refine Dr.V.drawR [(0, 5), (1, 5), (2, 5), (3, 5), (4, 5), (5, 5), (6, 5), (7, 5), (8, 5)] [] [] _ mixed_Jr (by kernel_rfl) (fun w hw => hw) ?_
      refine Dr.SW.r rfl (.inl rfl) rfl (by decide) (yr_move rfl rfl) ?_
      refine Dr.SW.r rfl (.inl rfl) rfl (by decide) (yr_move rfl rfl) ?_
      refine Dr.SW.p rfl (.inl rfl) rfl (by decide) (yq_idx (k := k) rfl Tryd.underlying25 sz9_Jr rfl rfl (by first | exact Sees.root (by assumption) | exact Sees.own (by (try simp only [List.append_assoc, List.cons_append, List.nil_append]); repeat (first | exact List.mem_cons_self | exact List.mem_append_left _ (by assumption) | apply List.mem_cons_of_mem | apply List.mem_append_right)) | exact Sees.root (hR _ (by omega)) | exact Sees.own (RowsIn.mem (by (try simp only [List.append_assoc, List.cons_append, List.nil_append]); repeat (first | exact RowsIn.here | exact RowsIn.last | apply RowsIn.there | apply RowsIn.thereS)) _ (by omega)) | exact Sees.own (WRowsIn.mem (by (try simp only [List.append_assoc, List.cons_append, List.nil_append]); repeat (first | exact WRowsIn.here | exact WRowsIn.last | apply WRowsIn.there | apply WRowsIn.thereS)) _ (by omega))) (by first | rfl | omega | (push_cast; rfl) | (push_cast; omega) | exact tmod_nat _ _) (by exact sx_length _) (by omega)) ?_
      refine Dr.SW.p rfl (.inl rfl) rfl (by decide) (yq_load (u := .string (ss.getD k emB)) rfl fb9_Jr rfl (by first | exact Sees.root (by assumption) | exact Sees.own (by (try simp only [List.append_assoc, List.cons_append, List.nil_append]); repeat (first | exact List.mem_cons_self | exact List.mem_append_left _ (by assumption) | apply List.mem_cons_of_mem | apply List.mem_append_right)) | exact Sees.root (hR _ (by omega)) | exact Sees.own (RowsIn.mem (by (try simp only [List.append_assoc, List.cons_append, List.nil_append]); repeat (first | exact RowsIn.here | exact RowsIn.last | apply RowsIn.there | apply RowsIn.thereS)) _ (by omega)) | exact Sees.own (WRowsIn.mem (by (try simp only [List.append_assoc, List.cons_append, List.nil_append]); repeat (first | exact WRowsIn.here | exact WRowsIn.last | apply WRowsIn.there | apply WRowsIn.thereS)) _ (by omega))) (sx_get (by omega))) ?_
      refine Dr.SW.r rfl (.inl rfl) rfl (by decide) (yr_move rfl rfl) ?_
      refine Dr.SW.r rfl (.inl rfl) rfl (by decide) (yr_move rfl rfl) ?_
      refine Dr.SW.p rfl (.inl rfl) rfl (by decide) (yq_idx (k := k) rfl Tryd.underlying25 sz9_Jr rfl rfl (by first | exact Sees.root (by assumption) | exact Sees.own (by (try simp only [List.append_assoc, List.cons_append, List.nil_append]); repeat (first | exact List.mem_cons_self | exact List.mem_append_left _ (by assumption) | apply List.mem_cons_of_mem | apply List.mem_append_right)) | exact Sees.root (hR _ (by omega)) | exact Sees.own (RowsIn.mem (by (try simp only [List.append_assoc, List.cons_append, List.nil_append]); repeat (first | exact RowsIn.here | exact RowsIn.last | apply RowsIn.there | apply RowsIn.thereS)) _ (by omega)) | exact Sees.own (WRowsIn.mem (by (try simp only [List.append_assoc, List.cons_append, List.nil_append]); repeat (first | exact WRowsIn.here | exact WRowsIn.last | apply WRowsIn.there | apply WRowsIn.thereS)) _ (by omega))) (by first | rfl | omega | (push_cast; rfl) | (push_cast; omega) | exact tmod_nat _ _) (by exact sx_length _) (by omega)) ?_
      refine Dr.SW.p rfl (.inl rfl) rfl (by decide) (yq_load (u := .string (ss.getD k emB)) rfl fb9_Jr rfl (by first | exact Sees.root (by assumption) | exact Sees.own (by (try simp only [List.append_assoc, List.cons_append, List.nil_append]); repeat (first | exact List.mem_cons_self | exact List.mem_append_left _ (by assumption) | apply List.mem_cons_of_mem | apply List.mem_append_right)) | exact Sees.root (hR _ (by omega)) | exact Sees.own (RowsIn.mem (by (try simp only [List.append_assoc, List.cons_append, List.nil_append]); repeat (first | exact RowsIn.here | exact RowsIn.last | apply RowsIn.there | apply RowsIn.thereS)) _ (by omega)) | exact Sees.own (WRowsIn.mem (by (try simp only [List.append_assoc, List.cons_append, List.nil_append]); repeat (first | exact WRowsIn.here | exact WRowsIn.last | apply WRowsIn.there | apply WRowsIn.thereS)) _ (by omega))) (sx_get (by omega))) ?_
      refine Dr.SW.r rfl (.inl rfl) rfl (by decide) (yr_scmp rfl rfl rfl (.inr rfl)) ?_
      refine Dr.SW.done ?_
      refine Dr.eqO (by simp only [List.append_nil, List.append_assoc, List.cons_append, List.nil_append] <;> rfl) ?_
      refine VE.then_wp ?_
      refine V.cond rfl (fun h3 => ?_) (fun h3 => ?_)
      · skip
        refine V.seq ?_
        refine V.region ?_
        refine VL.r (.inl rfl) rfl (by decide) (yr_assign (u := .bool false) rfl rfl) ?_
        refine VL.nil ?_
        refine VE.then_wp ?_
        refine V.ret ?_
        refine VE.block_ret ?_
        refine VE.then_ret ?_
        refine VE.then_ret ?_
        refine VE.block_ret ?_
        refine VE.then_ret ?_
        refine ret1 rfl rfl (fun w1 hw => ?_)
        first
          | (exfalso; simp only [scmp_ne_self] at *; contradiction)
          | exact ⟨rfl, hw.below⟩
      · skip
        refine V.skip ?_
        refine VE.block_normal ?_
        refine VE.then_wp ?_
        refine V.region ?_
        refine VL.r (.inl rfl) rfl (by decide) (yr_move rfl rfl) ?_
        refine VL.r (.inl rfl) rfl (by decide) (yr_int rfl rfl rfl (.inl ⟨rfl, wrap_in (by omega)⟩)) ?_
        refine VL.r (.inl rfl) rfl (by decide) (yr_assign rfl rfl) ?_
        refine VL.nil ?_
        refine VE.round (k + 1) ?_ ?_ ?_ ?_ ?_
        · exact (.cons rfl .nil)
        · exact (.cons rfl (.cons rfl .nil))
        · exact (fun w hw => hw)
        · omega
        · (try dsimp only); omega
    · skip
      replace h2 := ic_lss' h2
      refine V.exit ?_
      refine VE.then_exit ?_
      refine VE.then_exit ?_
      refine VE.block_here ?_
      refine VE.then_wp ?_
      refine V.seq ?_
      refine V.region ?_
      refine VL.r (.inl rfl) rfl (by decide) (yr_assign (u := .bool true) rfl rfl) ?_
      refine VL.nil ?_
      refine VE.then_wp ?_
      refine V.ret ?_
      refine ret1 rfl rfl (fun w1 hw => ?_)
      first
        | (exfalso; simp only [scmp_ne_self] at *; contradiction)
        | exact ⟨rfl, hw.below⟩

theorem c_check {w : World} {c : Nat} {s : ByteArray} (hc : c < 65003) (hs : s.size ≤ 1048576) : Pure Tryd.prog 40 [.int .i64 (c : Int), .string s] w (.int .i64 ((chk c s : Nat) : Int)) := by
  refine Pure.enter Tryd.func40 rfl Tryd.ntmps40 (Nat.le_of_ble_eq_true rfl) ?_
  refine V.seq ?_
  refine V.region ?_
  refine VL.r (.inl rfl) rfl (by decide) (yr_assign (u := .int .i64 0) rfl rfl) ?_
  refine VL.nil ?_
  refine VE.then_wp ?_
  refine V.seq ?_
  refine V.seq ?_
  refine V.region ?_
  refine VL.r (.inl rfl) rfl (by decide) (yr_assign (u := .int .i64 0) rfl rfl) ?_
  refine VL.nil ?_
  refine VE.then_wp ?_
  refine V.block ?_
  refine V.loops (G := Nat) [(1, _)] (fun (k : Nat) => k ≤ s.size) (fun (k : Nat) => [(0, .int .i64 ((chkK c s k : Nat) : Int)), (5, .int .i64 (k : Int))]) (fun (k : Nat) => s.size - k) 0 (.cons rfl .nil) (.cons (by rw [chkK_0]; rfl) (.cons rfl .nil)) ?_ ?_
  · exact (Nat.zero_le _)
  rintro k hk
  show V _ _ _ _ ([(0, .int .i64 ((chkK c s k : Nat) : Int)), (5, .int .i64 (k : Int))] ++ [(1, _)]) _ _
  have hck := chkK_lt (s := s) hc k
  have hsb := sb_lt s k
  refine V.seq ?_
  refine V.seq ?_
  refine V.region ?_
  refine VL.r (.inl rfl) rfl (by decide) (yr_move rfl rfl) ?_
  refine VL.r (.inl rfl) rfl (by decide) (yr_move rfl rfl) ?_
  refine VL.r (.inl rfl) rfl (by decide) (yr_lenString rfl Tryd.underlying9 rfl) ?_
  refine VL.r (.inl rfl) rfl (by decide) (yr_icmp rfl (.inr (.inr (.inl rfl))) rfl rfl) ?_
  refine VL.nil ?_
  refine VE.then_wp ?_
  refine V.cond rfl (fun h1 => ?_) (fun h1 => ?_)
  · skip
    replace h1 := ic_lss h1
    refine V.skip ?_
    refine VE.then_wp ?_
    refine V.seq ?_
    refine V.block ?_
    refine V.region ?_
    refine VL.r (.inl rfl) rfl (by decide) (yr_move rfl rfl) ?_
    refine VL.r (.inl rfl) rfl (by decide) (yr_mulN 739 (chkK c s k) rfl rfl rfl rfl rfl (by omega)) ?_
    refine VL.r (.inl rfl) rfl (by decide) (yr_move rfl rfl) ?_
    refine VL.r (.inl rfl) rfl (by decide) (yr_move rfl rfl) ?_
    refine VL.r (.inl rfl) rfl (by decide) (yr_strByte (i := k) rfl Tryd.underlying9 rfl rfl (by first | rfl | omega | (push_cast; rfl) | (push_cast; omega)) (by omega)) ?_
    refine VL.r (.inl rfl) rfl (by decide) (yr_intConv rfl Tryd.underlying5 Tryd.underlying2 rfl (wrap_in (by omega))) ?_
    refine VL.r (.inl rfl) rfl (by decide) (yr_addN (739 * chkK c s k + sb s k) rfl rfl rfl (by omega) (by omega)) ?_
    refine VL.r (.inl rfl) rfl (by decide) (yr_addN (739 * chkK c s k + sb s k + 67) rfl rfl rfl (by omega) (by omega)) ?_
    refine VL.r (.inl rfl) rfl (by decide) (yr_remN (739 * chkK c s k + sb s k + 67) 65003 rfl rfl rfl rfl rfl (by omega)) ?_
    refine VL.r (.inl rfl) rfl (by decide) (yr_assign rfl rfl) ?_
    refine VL.nil ?_
    refine VE.block_normal ?_
    refine VE.then_wp ?_
    refine V.region ?_
    refine VL.r (.inl rfl) rfl (by decide) (yr_move rfl rfl) ?_
    refine VL.r (.inl rfl) rfl (by decide) (yr_int rfl rfl rfl (.inl ⟨rfl, wrap_in (by omega)⟩)) ?_
    refine VL.r (.inl rfl) rfl (by decide) (yr_assign rfl rfl) ?_
    refine VL.nil ?_
    refine VE.round (k + 1) ?_ ?_ ?_ ?_ ?_
    · exact (.cons (by rw [chkK_s]; rfl) (.cons rfl .nil))
    · exact (.cons rfl .nil)
    · exact (fun w hw => hw)
    · omega
    · (try dsimp only); omega
  · skip
    replace h1 := ic_lss' h1
    refine V.exit ?_
    refine VE.then_exit ?_
    refine VE.then_exit ?_
    refine VE.block_here ?_
    refine VE.then_wp ?_
    refine V.seq ?_
    refine V.region ?_
    refine VL.r (.inl rfl) rfl (by decide) (yr_move rfl rfl) ?_
    refine VL.r (.inl rfl) rfl (by decide) (yr_assign rfl rfl) ?_
    refine VL.nil ?_
    refine VE.then_wp ?_
    refine V.ret ?_
    refine ret1 rfl rfl (fun w1 hw => ?_)
    obtain rfl : k = s.size := by omega
    exact ⟨rfl, hw.below⟩

theorem c_checkOf {w : World} {c : Nat} {s : ByteArray} (hc : c < 65003) (hs : s.size ≤ 1048576) : Pure Tryd.prog 26 [.int .i64 (c : Int), .string s] w (.tuple #[.int .i64 ((chk c s : Nat) : Int), .bool true]) := by
  refine Pure.enter Tryd.func26 rfl Tryd.ntmps26 (Nat.le_of_ble_eq_true rfl) ?_
  refine V.seq ?_
  refine V.region ?_
  refine VL.r (.inl rfl) rfl (by decide) (yr_assign (u := .int .i64 0) rfl rfl) ?_
  refine VL.r (.inl rfl) rfl (by decide) (yr_assign (u := .bool false) rfl rfl) ?_
  refine VL.nil ?_
  refine VE.then_wp ?_
  refine V.seq ?_
  refine V.seq ?_
  refine V.region ?_
  refine VL.r (.inl rfl) rfl (by decide) (yr_move rfl rfl) ?_
  refine VL.q (.inl rfl) rfl (by decide) (yq_callf rfl known43_Jr (.cons rfl (.cons rfl (.cons rfl .nil))) (fun w hw => c_within)) ?_
  refine VL.r (.inl rfl) rfl (by decide) (yr_not rfl rfl) ?_
  refine VL.nil ?_
  refine VE.then_wp ?_
  refine V.cond rfl (fun h1 => ?_) (fun h1 => ?_)
  · skip
    replace h1 := bnot_t h1
    exfalso; simp at h1; omega
  · skip
    replace h1 := bnot_f h1
    refine V.skip ?_
    refine VE.then_wp ?_
    refine V.seq ?_
    refine V.seq ?_
    refine V.region ?_
    refine VL.r (.inl rfl) rfl (by decide) (yr_move rfl rfl) ?_
    refine VL.r (.inl rfl) rfl (by decide) (yr_lenString rfl Tryd.underlying9 rfl) ?_
    refine VL.r (.inl rfl) rfl (by decide) (yr_move (u := .int .i64 0) rfl rfl) ?_
    refine VL.nil ?_
    refine VE.then_wp ?_
    refine V.block ?_
    refine V.loops (G := Nat) [(1, _), (11, _)] (fun (k : Nat) => k ≤ s.size) (fun (k : Nat) => [(0, .int .i64 ((chkK c s k : Nat) : Int)), (12, .int .i64 (k : Int))]) (fun (k : Nat) => s.size - k) 0 (.cons rfl (.cons rfl .nil)) (.cons (by rw [chkK_0]; rfl) (.cons rfl .nil)) ?_ ?_
    · exact (Nat.zero_le _)
    rintro k hk
    show V _ _ _ _ ([(0, .int .i64 ((chkK c s k : Nat) : Int)), (12, .int .i64 (k : Int))] ++ [(1, _), (11, _)]) _ _
    have hck := chkK_lt (s := s) hc k
    have hsb := sb_lt s k
    refine V.seq ?_
    refine V.region ?_
    refine VL.r (.inl rfl) rfl (by decide) (yr_icmp rfl (.inr (.inr (.inl rfl))) rfl rfl) ?_
    refine VL.nil ?_
    refine VE.then_wp ?_
    refine V.seq ?_
    refine V.cond rfl (fun h2 => ?_) (fun h2 => ?_)
    · skip
      replace h2 := ic_lss h2
      refine V.skip ?_
      refine VE.then_wp ?_
      refine V.seq ?_
      refine V.block ?_
      refine V.seq ?_
      refine V.region ?_
      refine VL.r (.inl rfl) rfl (by decide) (yr_move rfl rfl) ?_
      refine VL.r (.inl rfl) rfl (by decide) (yr_assign rfl rfl) ?_
      refine VL.nil ?_
      refine VE.then_wp ?_
      refine V.region ?_
      refine VL.r (.inl rfl) rfl (by decide) (yr_move rfl rfl) ?_
      refine VL.r (.inl rfl) rfl (by decide) (yr_mulN 739 (chkK c s k) rfl rfl rfl rfl rfl (by omega)) ?_
      refine VL.r (.inl rfl) rfl (by decide) (yr_move rfl rfl) ?_
      refine VL.r (.inl rfl) rfl (by decide) (yr_move rfl rfl) ?_
      refine VL.r (.inl rfl) rfl (by decide) (yr_strByte (i := k) rfl Tryd.underlying9 rfl rfl (by first | rfl | omega | (push_cast; rfl) | (push_cast; omega)) (by omega)) ?_
      refine VL.r (.inl rfl) rfl (by decide) (yr_intConv rfl Tryd.underlying5 Tryd.underlying2 rfl (wrap_in (by omega))) ?_
      refine VL.r (.inl rfl) rfl (by decide) (yr_addN (739 * chkK c s k + sb s k) rfl rfl rfl (by omega) (by omega)) ?_
      refine VL.r (.inl rfl) rfl (by decide) (yr_addN (739 * chkK c s k + sb s k + 67) rfl rfl rfl (by omega) (by omega)) ?_
      refine VL.r (.inl rfl) rfl (by decide) (yr_remN (739 * chkK c s k + sb s k + 67) 65003 rfl rfl rfl rfl rfl (by omega)) ?_
      refine VL.r (.inl rfl) rfl (by decide) (yr_assign rfl rfl) ?_
      refine VL.nil ?_
      refine VE.block_normal ?_
      refine VE.then_wp ?_
      refine V.region ?_
      refine VL.r (.inl rfl) rfl (by decide) (yr_int rfl rfl rfl (.inl ⟨rfl, wrap_in (by omega)⟩)) ?_
      refine VL.r (.inl rfl) rfl (by decide) (yr_move rfl rfl) ?_
      refine VL.nil ?_
      refine VE.round (k + 1) ?_ ?_ ?_ ?_ ?_
      · exact (.cons (by rw [chkK_s]; rfl) (.cons rfl .nil))
      · exact (.cons rfl (.cons rfl .nil))
      · exact (fun w hw => hw)
      · omega
      · (try dsimp only); omega
    · skip
      replace h2 := ic_lss' h2
      refine V.exit ?_
      refine VE.then_exit ?_
      refine VE.then_exit ?_
      refine VE.block_here ?_
      refine VE.then_wp ?_
      refine V.seq ?_
      refine V.region ?_
      refine VL.r (.inl rfl) rfl (by decide) (yr_move rfl rfl) ?_
      refine VL.r (.inl rfl) rfl (by decide) (yr_assign rfl rfl) ?_
      refine VL.r (.inl rfl) rfl (by decide) (yr_assign (u := .bool true) rfl rfl) ?_
      refine VL.nil ?_
      refine VE.then_wp ?_
      refine V.ret ?_
      refine ret2 rfl rfl rfl (by nofun) (by nofun) (fun w1 hw => ?_)
      obtain rfl : k = s.size := by omega
      exact ⟨rfl, hw.below⟩

theorem c_dec {w : World} {n : Nat} (hn : n ≤ 100000) : Pure Tryd.prog 41 [.int .i64 (n : Int)] w (.string (dec n)) := by
  refine Pure.enter Tryd.func41 rfl Tryd.ntmps41 (Nat.le_of_ble_eq_true rfl) ?_
  refine V.seq ?_
  refine V.region ?_
  refine VL.r (.inl rfl) rfl (by decide) (yr_assign rfl rfl) ?_
  refine VL.nil ?_
  refine VE.then_wp ?_
  refine V.seq ?_
  refine V.region ?_
  refine VL.new1 (.inl rfl) rfl (by decide) (yn_lit rfl Tryd.underlying34 elt5_Jr rfl (by decide) .nil (by first | (simp; done) | (simp [cn, cn1, cn0]; done)) rfl rfl rfl) ?_
  intro b6
  refine VL.r (.inl rfl) rfl (by decide) (yr_assign rfl rfl) ?_
  refine VL.nil ?_
  refine VE.then_wp ?_
  refine V.seq ?_
  refine V.region ?_
  refine VL.r (.inl rfl) rfl (by decide) (yr_move rfl rfl) ?_
  refine VL.r (.inl rfl) rfl (by decide) (yr_assign rfl rfl) ?_
  refine VL.nil ?_
  refine VE.then_wp ?_
  refine V.seq ?_
  refine V.block ?_
  refine V.loopc (G := Nat × (List Int) × Nat × (Option Addr) × Nat) [(0, _)] (fun ⟨v, t, z, ar, cr⟩ => DecI n v t ∧ t.length = z ∧ v ≤ n) (fun ⟨v, t, z, ar, cr⟩ => [⟨ar, bl t, cr * 1, 5⟩]) (fun ⟨v, t, z, ar, cr⟩ => [(3, .slice ar z cr), (4, .int .i64 (v : Int))]) (fun ⟨v, t, z, ar, cr⟩ => v + (1 - z)) (n, [], 0, some ⟨b6, 0, none⟩, 0) (.cons rfl .nil) (.cons rfl (.cons rfl .nil)) ?_ ?_ ?_
  · exact (fun w hw => hw)
  · exact (by exact ⟨decI_0 n, rfl, Nat.le_refl _⟩)
  rintro ⟨v, t, z, ar, cr⟩ ⟨hD, hz9, hv9⟩
  show V _ _ _ [⟨ar, bl t, cr * 1, 5⟩] ([(3, .slice ar z cr), (4, .int .i64 (v : Int))] ++ [(0, _)]) _ _
  refine V.seq ?_
  refine V.seq ?_
  refine V.region ?_
  refine VL.r (.inl rfl) rfl (by decide) (yr_move rfl rfl) ?_
  refine VL.r (.inl rfl) rfl (by decide) (yr_len rfl Tryd.underlying34 rfl) ?_
  refine VL.r (.inl rfl) rfl (by decide) (yr_icmp rfl (.inl rfl) rfl rfl) ?_
  refine VL.r (.inl rfl) rfl (by decide) (yr_move rfl rfl) ?_
  refine VX.split 11 _ rfl (fun h1 => ?_) (fun h1 => ?_)
  · skip
    replace h1 := ic_eql h1
    refine VL.no rfl rfl rfl rfl rfl (by decide) ?_
    refine VL.no rfl rfl rfl rfl rfl (by decide) ?_
    refine VL.r (.inl rfl) rfl (by decide) (yr_pick_t (u := .bool true) rfl rfl rfl) ?_
    refine VL.nil ?_
    refine VE.then_wp ?_
    refine V.condT rfl ?_
    refine V.skip ?_
    refine VE.then_wp ?_
    refine V.block ?_
    refine V.seq ?_
    refine V.region ?_
    refine VL.r (.inl rfl) rfl (by decide) (yr_move rfl rfl) ?_
    refine VL.r (.inl rfl) rfl (by decide) (yr_remN (v) 10 rfl rfl rfl rfl rfl (by omega)) ?_
    refine VL.r (.inl rfl) rfl (by decide) (yr_assign rfl rfl) ?_
    refine VL.nil ?_
    refine VE.then_wp ?_
    refine V.seq ?_
    refine V.seq ?_
    refine V.region ?_
    refine VL.r (.inl rfl) rfl (by decide) (yr_move rfl rfl) ?_
    refine VL.r (.inl rfl) rfl (by decide) (yr_icmp rfl (.inr (.inr (.inl rfl))) rfl rfl) ?_
    refine VL.nil ?_
    refine VE.then_wp ?_
    refine V.cond rfl (fun h3 => ?_) (fun h3 => ?_)
    · skip
      replace h3 := ic_lss h3
      exfalso; omega
    · skip
      replace h3 := ic_lss' h3
      refine V.skip ?_
      refine VE.then_wp ?_
      refine V.seq ?_
      refine V.region ?_
      refine VL.r (.inl rfl) rfl (by decide) (yr_move rfl rfl) ?_
      refine VL.r (.inl rfl) rfl (by decide) (yr_addN (48 + v % 10) rfl rfl rfl (by omega) (by omega)) ?_
      refine VL.r (.inl rfl) rfl (by decide) (yr_intConv rfl Tryd.underlying2 Tryd.underlying5 rfl (u8_nat (by omega))) ?_
      refine VL.new1 (.inl rfl) rfl (by decide) (yn_lit rfl Tryd.underlying34 elt5_Jr rfl (by decide) (.cons rfl .nil) (by first | (simp; done) | (simp [cn, cn1, cn0]; done)) rfl rfl rfl) ?_
      intro b24
      refine VL.r (.inl rfl) rfl (by decide) (yr_move rfl rfl) ?_
      refine VL.c (.inl rfl) rfl (by decide) (yc_appendz 1 rfl rfl Tryd.underlying34 elt5_Jr rfl rfl (by repeat (first | exact UpdF.here | apply UpdF.there | apply UpdF.thereS)) (by first | exact Sees.root (by assumption) | exact Sees.own (by repeat (first | exact List.mem_cons_self | exact List.mem_append_left _ (by assumption) | apply List.mem_cons_of_mem | apply List.mem_append_right)) | exact Sees.root (hR _ (by omega)) | exact Sees.own (RowsIn.mem (by repeat (first | exact RowsIn.here | exact RowsIn.last | apply RowsIn.there | apply RowsIn.thereS)) _ (by omega)) | exact Sees.own (WRowsIn.mem (by repeat (first | exact WRowsIn.here | exact WRowsIn.last | apply WRowsIn.there | apply WRowsIn.thereS)) _ (by omega))) rfl (by simp) (by rw [bl_length]; omega) (by first | rfl | exact bl_scal _) (by first | rfl | exact bl_scal _) (by have := decI_len hD; first | omega | (simp; omega)) (by have := decI_len hD; first | omega | (simp; omega))) ?_
      rintro ⟨a26, c26⟩
      refine VL.r (.inl rfl) rfl (by decide) (yr_assign rfl rfl) ?_
      refine VL.nil ?_
      refine VE.then_wp ?_
      refine V.region ?_
      refine VL.r (.inl rfl) rfl (by decide) (yr_move rfl rfl) ?_
      refine VL.r (.inl rfl) rfl (by decide) (yr_quoN (v) 10 rfl rfl rfl rfl rfl (by omega) (by omega)) ?_
      refine VL.r (.inl rfl) rfl (by decide) (yr_assign rfl rfl) ?_
      refine VL.nil ?_
      refine VE.block_normal ?_
      refine VE.round (v / 10, ((48 + v % 10 : Nat) : Int) :: t, z + 1, a26, c26) ?_ ?_ ?_ ?_ ?_
      · exact (.cons (congrArg (fun n => some (Value.slice _ n _)) (by omega)) (.cons rfl .nil))
      · exact (.cons rfl .nil)
      · exact (fun w hw => by dsimp only; exact hw.pick (by apply Pick.one; repeat (first | exact Rem.here | apply Rem.there)))
      · exact ⟨decI_step hD (by omega), by rw [List.length_cons, hz9], by omega⟩
      · (try dsimp only); omega
  · skip
    replace h1 := ic_eql' h1
    refine VL.r (.inr ⟨_, _, _, rfl, rfl, rfl⟩) rfl (by decide) (yr_move rfl rfl) ?_
    refine VL.r (.inr ⟨_, _, _, rfl, rfl, rfl⟩) rfl (by decide) (yr_icmp rfl (.inr (.inl rfl)) rfl rfl) ?_
    refine VL.r (.inl rfl) rfl (by decide) (yr_pick_f rfl rfl rfl) ?_
    refine VL.nil ?_
    refine VE.then_wp ?_
    refine V.cond rfl (fun h4 => ?_) (fun h4 => ?_)
    · skip
      replace h4 := ic_neq h4
      refine V.skip ?_
      refine VE.then_wp ?_
      refine V.block ?_
      refine V.seq ?_
      refine V.region ?_
      refine VL.r (.inl rfl) rfl (by decide) (yr_move rfl rfl) ?_
      refine VL.r (.inl rfl) rfl (by decide) (yr_remN (v) 10 rfl rfl rfl rfl rfl (by omega)) ?_
      refine VL.r (.inl rfl) rfl (by decide) (yr_assign rfl rfl) ?_
      refine VL.nil ?_
      refine VE.then_wp ?_
      refine V.seq ?_
      refine V.seq ?_
      refine V.region ?_
      refine VL.r (.inl rfl) rfl (by decide) (yr_move rfl rfl) ?_
      refine VL.r (.inl rfl) rfl (by decide) (yr_icmp rfl (.inr (.inr (.inl rfl))) rfl rfl) ?_
      refine VL.nil ?_
      refine VE.then_wp ?_
      refine V.cond rfl (fun h5 => ?_) (fun h5 => ?_)
      · skip
        replace h5 := ic_lss h5
        exfalso; omega
      · skip
        replace h5 := ic_lss' h5
        refine V.skip ?_
        refine VE.then_wp ?_
        refine V.seq ?_
        refine V.region ?_
        refine VL.r (.inl rfl) rfl (by decide) (yr_move rfl rfl) ?_
        refine VL.r (.inl rfl) rfl (by decide) (yr_addN (48 + v % 10) rfl rfl rfl (by omega) (by omega)) ?_
        refine VL.r (.inl rfl) rfl (by decide) (yr_intConv rfl Tryd.underlying2 Tryd.underlying5 rfl (u8_nat (by omega))) ?_
        refine VL.new1 (.inl rfl) rfl (by decide) (yn_lit rfl Tryd.underlying34 elt5_Jr rfl (by decide) (.cons rfl .nil) (by first | (simp; done) | (simp [cn, cn1, cn0]; done)) rfl rfl rfl) ?_
        intro b24
        refine VL.r (.inl rfl) rfl (by decide) (yr_move rfl rfl) ?_
        refine VL.c (.inl rfl) rfl (by decide) (yc_appendz 1 rfl rfl Tryd.underlying34 elt5_Jr rfl rfl (by repeat (first | exact UpdF.here | apply UpdF.there | apply UpdF.thereS)) (by first | exact Sees.root (by assumption) | exact Sees.own (by repeat (first | exact List.mem_cons_self | exact List.mem_append_left _ (by assumption) | apply List.mem_cons_of_mem | apply List.mem_append_right)) | exact Sees.root (hR _ (by omega)) | exact Sees.own (RowsIn.mem (by repeat (first | exact RowsIn.here | exact RowsIn.last | apply RowsIn.there | apply RowsIn.thereS)) _ (by omega)) | exact Sees.own (WRowsIn.mem (by repeat (first | exact WRowsIn.here | exact WRowsIn.last | apply WRowsIn.there | apply WRowsIn.thereS)) _ (by omega))) rfl (by simp) (by rw [bl_length]; omega) (by first | rfl | exact bl_scal _) (by first | rfl | exact bl_scal _) (by have := decI_len hD; first | omega | (simp; omega)) (by have := decI_len hD; first | omega | (simp; omega))) ?_
        rintro ⟨a26, c26⟩
        refine VL.r (.inl rfl) rfl (by decide) (yr_assign rfl rfl) ?_
        refine VL.nil ?_
        refine VE.then_wp ?_
        refine V.region ?_
        refine VL.r (.inl rfl) rfl (by decide) (yr_move rfl rfl) ?_
        refine VL.r (.inl rfl) rfl (by decide) (yr_quoN (v) 10 rfl rfl rfl rfl rfl (by omega) (by omega)) ?_
        refine VL.r (.inl rfl) rfl (by decide) (yr_assign rfl rfl) ?_
        refine VL.nil ?_
        refine VE.block_normal ?_
        refine VE.round (v / 10, ((48 + v % 10 : Nat) : Int) :: t, z + 1, a26, c26) ?_ ?_ ?_ ?_ ?_
        · exact (.cons (congrArg (fun n => some (Value.slice _ n _)) (by omega)) (.cons rfl .nil))
        · exact (.cons rfl .nil)
        · exact (fun w hw => by dsimp only; exact hw.pick (by apply Pick.one; repeat (first | exact Rem.here | apply Rem.there)))
        · exact ⟨decI_step hD (by omega), by rw [List.length_cons, hz9], by omega⟩
        · (try dsimp only); omega
    · skip
      replace h4 := ic_neq' h4
      refine V.exit ?_
      refine VE.then_exit ?_
      refine VE.then_exit ?_
      refine VE.block_here ?_
      refine VE.then_wp ?_
      refine V.seq ?_
      refine V.seq ?_
      refine V.region ?_
      refine VL.r (.inl rfl) rfl (by decide) (yr_move rfl rfl) ?_
      refine VL.r (.inl rfl) rfl (by decide) (yr_icmp rfl (.inr (.inr (.inl rfl))) rfl rfl) ?_
      refine VL.nil ?_
      refine VE.then_wp ?_
      refine V.cond rfl (fun h6 => ?_) (fun h6 => ?_)
      · skip
        replace h6 := ic_lss h6
        exfalso; omega
      · skip
        replace h6 := ic_lss' h6
        refine V.skip ?_
        refine VE.then_wp ?_
        refine V.seq ?_
        refine V.region ?_
        refine VL.r (.inl rfl) rfl (by decide) (yr_move rfl rfl) ?_
        refine VL.q (.inl rfl) rfl (by decide) (yq_bts (bs := t) rfl Tryd.underlying34 Tryd.underlying5 Tryd.underlying9 rfl (by first | exact Sees.root (by assumption) | exact Sees.own (by repeat (first | exact List.mem_cons_self | exact List.mem_append_left _ (by assumption) | apply List.mem_cons_of_mem | apply List.mem_append_right)) | exact Sees.root (hR _ (by omega)) | exact Sees.own (RowsIn.mem (by repeat (first | exact RowsIn.here | exact RowsIn.last | apply RowsIn.there | apply RowsIn.thereS)) _ (by omega)) | exact Sees.own (WRowsIn.mem (by repeat (first | exact WRowsIn.here | exact WRowsIn.last | apply WRowsIn.there | apply WRowsIn.thereS)) _ (by omega))) (by omega)) ?_
        refine VL.r (.inl rfl) rfl (by decide) (yr_assign rfl rfl) ?_
        refine VL.nil ?_
        refine VE.then_wp ?_
        refine V.ret ?_
        refine ret1 rfl rfl (fun w1 hw => ?_)
        obtain rfl : v = 0 := by omega
        exact ⟨by rw [decI_end hD (by omega)]; rfl, hw.below⟩

theorem c_fmtInt {w : World} {n : Nat} (hT : Go.Lib.TabIs Tryd.prog w "internal/strconv.uint64pow10" .u64 Go.Lib.pow10Tab) (hn : n ≤ 9223372036854775807) : Pure Tryd.prog 45 [.int .i64 (n : Int), .int .i64 10] w (.string (dec n)) := by
  intro vs hv
  obtain rfl := int_args2 hv
  refine (Tryd.strconv_FormatInt_10 (n : Int) (by omega) (by omega) w hT).mono ?_
  rintro e w' ⟨rfl, k, os, rfl⟩
  exact ⟨_, rfl, by rw [itoa_dec]; rfl, Go.Lib.below_grow _ _ (Nat.le_refl _) _ _⟩
theorem c_ixB {w : World} {s : ByteArray} : Pure Tryd.prog 46 [.string s, .int .u8 10] w (.int .i64 (Go.Lib.indexByte s.data.toList 10)) := by
  intro vs hv
  obtain rfl := str_int2 hv
  refine (Tryd.strings_IndexByte s 10 w).mono ?_
  rintro e w' ⟨rfl, rfl⟩
  exact ⟨_, rfl, rfl, Below.refl _ _⟩
theorem c_cutT {w : World} {s : ByteArray} {m : Int} (hM : Cl w (some ⟨0, 0, none⟩) [.int .i64 m]) (hs : s.size < 4294967281) : Pure Tryd.prog 47 [.string s, .string ⟨#[32]⟩] w (.tuple #[.string (num s), .string (txt s), .bool (fnd s)]) := by
  intro vs hv
  obtain rfl := str_args2 hv
  refine (Tryd.strings_Cut s ⟨#[32]⟩ m w hs hM.int0).mono ?_
  rintro e w' ⟨rfl, n, rfl⟩
  exact ⟨_, rfl, cut_tup s, drewN_below _ _⟩
theorem c_decimal {w : World} {n : Nat} (hT : Go.Lib.TabIs Tryd.prog w "internal/strconv.uint64pow10" .u64 Go.Lib.pow10Tab) (hn : n ≤ 100000) : Pure Tryd.prog 28 [.int .i64 (n : Int)] w (.string (dec n)) := by
  refine Pure.enter Tryd.func28 rfl Tryd.ntmps28 (Nat.le_of_ble_eq_true rfl) ?_
  refine V.seq ?_
  refine V.region ?_
  refine VL.r (.inl rfl) rfl (by decide) (yr_assign rfl rfl) ?_
  refine VL.nil ?_
  refine VE.then_wp ?_
  refine V.seq ?_
  refine V.region ?_
  refine VL.r (.inl rfl) rfl (by decide) (yr_move rfl rfl) ?_
  refine VL.q (.inl rfl) rfl (by decide) (yq_callf rfl known45_Jr (.cons rfl (.cons rfl .nil)) (fun w hw => (c_fmtInt (tab_keep hT hw.below) (by omega)))) ?_
  refine VL.r (.inl rfl) rfl (by decide) (yr_assign rfl rfl) ?_
  refine VL.nil ?_
  refine VE.then_wp ?_
  refine V.ret ?_
  refine ret1 rfl rfl (fun w1 hw => ?_)
  exact ⟨rfl, hw.below⟩

theorem c_recovered {w : World} {s : ByteArray} {m : Int} (hM : Cl w (some ⟨0, 0, none⟩) [.int .i64 m]) (hT : Go.Lib.TabIs Tryd.prog w "internal/strconv.uint64pow10" .u64 Go.Lib.pow10Tab) (hs : s.size ≤ 12000) : New Tryd.prog 32 [.string s] w (fun p : Option Addr × Nat => .tuple #[.slice p.1 (recO s).length p.2, .int .i64 ((recN s : Nat) : Int)]) (fun p => [⟨p.1, sx (recO s), p.2 * 1, 9⟩]) := by
  refine New.enter Tryd.func32 rfl Tryd.ntmps32 (Nat.le_of_ble_eq_true rfl) ?_
  refine V.seq ?_
  refine V.region ?_
  refine VL.r (.inl rfl) rfl (by decide) (yr_assign (u := .slice none 0 0) rfl rfl) ?_
  refine VL.r (.inl rfl) rfl (by decide) (yr_assign (u := .int .i64 0) rfl rfl) ?_
  refine VL.nil ?_
  refine VE.then_wp ?_
  refine V.seq ?_
  refine V.region ?_
  refine VL.new1 (.inl rfl) rfl (by decide) (yn_lit rfl Tryd.underlying25 elt9_Jr rfl (by decide) .nil (by first | (simp; done) | (simp [cn, cn1, cn0]; done)) rfl rfl rfl) ?_
  intro b13
  refine VL.r (.inl rfl) rfl (by decide) (yr_assign rfl rfl) ?_
  refine VL.nil ?_
  refine VE.then_wp ?_
  refine V.seq ?_
  refine V.region ?_
  refine VL.r (.inl rfl) rfl (by decide) (yr_assign (u := .int .i64 0) rfl rfl) ?_
  refine VL.nil ?_
  refine VE.then_wp ?_
  refine V.seq ?_
  refine V.region ?_
  refine VL.r (.inl rfl) rfl (by decide) (yr_assign (u := .int .i64 0) rfl rfl) ?_
  refine VL.nil ?_
  refine VE.then_wp ?_
  refine V.block ?_
  refine V.loopc (G := Nat × Nat × (List ByteArray) × (Option Addr) × Nat) [(0, _)] (fun ⟨b, c, out, ar, cr⟩ => GoB s b c out ∧ b ≤ s.size ∧ c < 65003 ∧ out.length ≤ b) (fun ⟨b, c, out, ar, cr⟩ => [⟨ar, sx out, cr * 1, 9⟩]) (fun ⟨b, c, out, ar, cr⟩ => [(4, .slice ar out.length cr), (5, .int .i64 (c : Int)), (6, .int .i64 (b : Int))]) (fun ⟨b, c, out, ar, cr⟩ => s.size + 1 - b) (0, 0, [], some ⟨b13, 0, none⟩, 0) (.cons rfl .nil) (.cons rfl (.cons rfl (.cons rfl .nil))) ?_ ?_ ?_
  · exact (fun w hw => hw)
  · exact (by exact ⟨goB_0 s, Nat.zero_le _, by decide, Nat.le_refl _⟩)
  rintro ⟨b, c, out, ar, cr⟩ ⟨hG, hb9, hc9, ho9⟩
  show V _ _ _ [⟨ar, sx out, cr * 1, 9⟩] ([(4, .slice ar out.length cr), (5, .int .i64 (c : Int)), (6, .int .i64 (b : Int))] ++ [(0, _)]) _ _
  refine V.block ?_
  refine V.seq ?_
  refine V.region ?_
  refine VL.r (.inl rfl) rfl (by decide) (yr_move rfl rfl) ?_
  refine VL.r (.inl rfl) rfl (by decide) (yr_move rfl rfl) ?_
  refine VL.r (.inl rfl) rfl (by decide) (yr_strPart (l := b) (h := s.size) rfl Tryd.underlying9 rfl (OptI.at rfl rfl) OptI.no (by omega) (by omega)) ?_
  refine VL.q (.inl rfl) rfl (by decide) (yq_callf rfl known46_Jr (.cons rfl (.cons rfl .nil)) (fun w hw => c_ixB)) ?_
  refine VL.r (.inl rfl) rfl (by decide) (yr_assign rfl rfl) ?_
  refine VL.nil ?_
  refine VE.then_wp ?_
  refine V.seq ?_
  refine V.seq ?_
  refine V.region ?_
  refine VL.r (.inl rfl) rfl (by decide) (yr_move rfl rfl) ?_
  refine VL.r (.inl rfl) rfl (by decide) (yr_icmp rfl (.inr (.inr (.inl rfl))) rfl rfl) ?_
  refine VL.nil ?_
  refine VE.then_wp ?_
  refine V.cond rfl (fun h1 => ?_) (fun h1 => ?_)
  · skip
    replace h1 := ic_lss h1
    refine V.seq ?_
    refine V.region ?_
    refine VL.r (.inl rfl) rfl (by decide) (yr_move rfl rfl) ?_
    refine VL.r (.inl rfl) rfl (by decide) (yr_move rfl rfl) ?_
    refine VL.r (.inl rfl) rfl (by decide) (yr_assign rfl rfl) ?_
    refine VL.r (.inl rfl) rfl (by decide) (yr_assign rfl rfl) ?_
    refine VL.nil ?_
    refine VE.then_wp ?_
    refine V.ret ?_
    refine VE.then_ret ?_
    refine VE.block_ret ?_
    refine VE.then_ret ?_
    refine VE.block_ret ?_
    refine ret2 rfl rfl rfl (by nofun) (by nofun) (fun w1 hw => ?_)
    obtain ⟨e1, e2⟩ := goB_end hG (by assumption)
    exact ⟨(ar, cr), by first | (rw [← e1, ← e2]; done) | (rw [← e1, ← e2]; rfl), by rw [← e1]; exact hw.out1⟩
  · skip
    replace h1 := ic_lss' h1
    obtain ⟨i, hi⟩ : ∃ i : Nat, Go.Lib.indexByte (s.extract b s.size).data.toList 10 = i := ⟨_, (Int.toNat_of_nonneg (by omega)).symm⟩
    obtain ⟨hb1, -⟩ := goB_cut hb9 hi
    have hL : (s.extract b (b + i)).size = i := by rw [extract_size (by omega)]; omega
    have hT9 := txt_size (s.extract b (b + i))
    have hck := chk_lt (s := txt (s.extract b (b + i))) hc9
    refine V.skip ?_
    refine VE.then_wp ?_
    refine V.seq ?_
    refine V.region ?_
    refine VL.r (.inl rfl) rfl (by decide) (yr_move rfl rfl) ?_
    refine VL.r (.inl rfl) rfl (by decide) (yr_move rfl rfl) ?_
    refine VL.r (.inl rfl) rfl (by decide) (yr_move rfl rfl) ?_
    refine VL.r (.inl rfl) rfl (by decide) (yr_move rfl rfl) ?_
    refine VL.r (.inl rfl) rfl (by decide) (yr_addN (b + i) rfl rfl rfl (by rw [hi]; omega) (by omega)) ?_
    refine VL.r (.inl rfl) rfl (by decide) (yr_strPart (l := b) (h := b + i) rfl Tryd.underlying9 rfl (OptI.at rfl rfl) (OptI.at rfl rfl) (by omega) (by omega)) ?_
    refine VL.q (.inl rfl) rfl (by decide) (yq_callf rfl known47_Jr (.cons rfl (.cons rfl .nil)) (fun w hw => (c_cutT (by first | exact Sees.root (by assumption) w hw | exact Sees.own (by repeat (first | exact List.mem_cons_self | exact List.mem_append_left _ (by assumption) | apply List.mem_cons_of_mem | apply List.mem_append_right)) w hw) (by omega)))) ?_
    refine VL.r (.inl rfl) rfl (by decide) (yr_move rfl rfl) ?_
    refine VL.r (.inl rfl) rfl (by decide) (yr_extract rfl rfl rfl (by nofun)) ?_
    refine VL.r (.inl rfl) rfl (by decide) (yr_extract rfl rfl rfl (by nofun)) ?_
    refine VL.r (.inl rfl) rfl (by decide) (yr_extract rfl rfl rfl (by nofun)) ?_
    refine VL.r (.inl rfl) rfl (by decide) (yr_assign rfl rfl) ?_
    refine VL.r (.inl rfl) rfl (by decide) (yr_assign rfl rfl) ?_
    refine VL.r (.inl rfl) rfl (by decide) (yr_assign rfl rfl) ?_
    refine VL.nil ?_
    refine VE.then_wp ?_
    refine V.seq ?_
    refine V.region ?_
    refine VL.r (.inl rfl) rfl (by decide) (yr_move rfl rfl) ?_
    refine VL.r (.inl rfl) rfl (by decide) (yr_move rfl rfl) ?_
    refine VL.q (.inl rfl) rfl (by decide) (yq_callf rfl known26_Jr (.cons rfl (.cons rfl .nil)) (fun w hw => (c_checkOf (by omega) (by omega)))) ?_
    refine VL.r (.inl rfl) rfl (by decide) (yr_move rfl rfl) ?_
    refine VL.r (.inl rfl) rfl (by decide) (yr_extract rfl rfl rfl (by nofun)) ?_
    refine VL.r (.inl rfl) rfl (by decide) (yr_extract rfl rfl rfl (by nofun)) ?_
    refine VL.r (.inl rfl) rfl (by decide) (yr_assign rfl rfl) ?_
    refine VL.r (.inl rfl) rfl (by decide) (yr_assign rfl rfl) ?_
    refine VL.nil ?_
    refine VE.then_wp ?_
    refine V.seq ?_
    refine V.seq ?_
    refine V.region ?_
    refine VL.r (.inl rfl) rfl (by decide) (yr_move rfl rfl) ?_
    refine VL.r (.inl rfl) rfl (by decide) (yr_not rfl rfl) ?_
    refine VL.r (.inl rfl) rfl (by decide) (yr_move rfl rfl) ?_
    refine VX.split 41 _ rfl (fun h2 => ?_) (fun h2 => ?_)
    · skip
      replace h2 := bnot_t h2
      refine VL.no rfl rfl rfl rfl rfl (by decide) ?_
      refine VL.no rfl rfl rfl rfl rfl (by decide) ?_
      refine VL.no rfl rfl rfl rfl rfl (by decide) ?_
      refine VL.no rfl rfl rfl rfl rfl (by decide) ?_
      refine VL.r (.inl rfl) rfl (by decide) (yr_pick_t (u := .bool true) rfl rfl rfl) ?_
      refine VL.nil ?_
      refine VE.then_wp ?_
      refine V.condT rfl ?_
      refine V.seq ?_
      refine V.region ?_
      refine VL.r (.inl rfl) rfl (by decide) (yr_move rfl rfl) ?_
      refine VL.r (.inl rfl) rfl (by decide) (yr_move rfl rfl) ?_
      refine VL.r (.inl rfl) rfl (by decide) (yr_assign rfl rfl) ?_
      refine VL.r (.inl rfl) rfl (by decide) (yr_assign rfl rfl) ?_
      refine VL.nil ?_
      refine VE.then_wp ?_
      refine V.ret ?_
      refine VE.then_ret ?_
      refine VE.block_ret ?_
      refine VE.then_ret ?_
      refine VE.block_ret ?_
      refine ret2 rfl rfl rfl (by nofun) (by nofun) (fun w1 hw => ?_)
      obtain ⟨e1, e2⟩ := goB_bad hG hb9 hi (good_n1 (by assumption))
      exact ⟨(ar, cr), by first | (rw [← e1, ← e2]; done) | (rw [← e1, ← e2]; rfl), by rw [← e1]; exact hw.out1⟩
    · skip
      replace h2 := bnot_f h2
      refine VL.r (.inr ⟨_, _, _, rfl, rfl, rfl⟩) rfl (by decide) (yr_move rfl rfl) ?_
      refine VL.r (.inr ⟨_, _, _, rfl, rfl, rfl⟩) rfl (by decide) (yr_move rfl rfl) ?_
      refine VL.q (.inr ⟨_, _, _, rfl, rfl, rfl⟩) rfl (by decide) (yq_callf rfl known28_Jr (.cons rfl .nil) (fun w hw => (c_decimal (tab_keep hT hw.below) (by omega)))) ?_
      refine VL.r (.inr ⟨_, _, _, rfl, rfl, rfl⟩) rfl (by decide) (yr_scmp rfl rfl rfl (.inr rfl)) ?_
      refine VL.r (.inl rfl) rfl (by decide) (yr_pick_f rfl rfl rfl) ?_
      refine VL.nil ?_
      refine VE.then_wp ?_
      refine V.cond rfl (fun h4 => ?_) (fun h4 => ?_)
      · skip
        refine V.seq ?_
        refine V.region ?_
        refine VL.r (.inl rfl) rfl (by decide) (yr_move rfl rfl) ?_
        refine VL.r (.inl rfl) rfl (by decide) (yr_move rfl rfl) ?_
        refine VL.r (.inl rfl) rfl (by decide) (yr_assign rfl rfl) ?_
        refine VL.r (.inl rfl) rfl (by decide) (yr_assign rfl rfl) ?_
        refine VL.nil ?_
        refine VE.then_wp ?_
        refine V.ret ?_
        refine VE.then_ret ?_
        refine VE.block_ret ?_
        refine VE.then_ret ?_
        refine VE.block_ret ?_
        refine ret2 rfl rfl rfl (by nofun) (by nofun) (fun w1 hw => ?_)
        obtain ⟨e1, e2⟩ := goB_bad hG hb9 hi (good_n2 (by assumption))
        exact ⟨(ar, cr), by first | (rw [← e1, ← e2]; done) | (rw [← e1, ← e2]; rfl), by rw [← e1]; exact hw.out1⟩
      · skip
        refine V.skip ?_
        refine VE.then_wp ?_
        refine V.seq ?_
        refine V.region ?_
        refine VL.r (.inl rfl) rfl (by decide) (yr_move rfl rfl) ?_
        refine VL.r (.inl rfl) rfl (by decide) (yr_move rfl rfl) ?_
        refine VL.new1 (.inl rfl) rfl (by decide) (yn_lit rfl Tryd.underlying25 elt9_Jr rfl (by decide) (.cons rfl .nil) (by first | (simp; done) | (simp [cn, cn1, cn0]; done)) rfl rfl rfl) ?_
        intro b51
        refine VL.c (.inl rfl) rfl (by decide) (yc_appendz 1 rfl rfl Tryd.underlying25 elt9_Jr rfl rfl (by repeat (first | exact UpdF.here | apply UpdF.there | apply UpdF.thereS)) (by first | exact Sees.root (by assumption) | exact Sees.own (by repeat (first | exact List.mem_cons_self | exact List.mem_append_left _ (by assumption) | apply List.mem_cons_of_mem | apply List.mem_append_right)) | exact Sees.root (hR _ (by omega)) | exact Sees.own (RowsIn.mem (by repeat (first | exact RowsIn.here | exact RowsIn.last | apply RowsIn.there | apply RowsIn.thereS)) _ (by omega)) | exact Sees.own (WRowsIn.mem (by repeat (first | exact WRowsIn.here | exact WRowsIn.last | apply WRowsIn.there | apply WRowsIn.thereS)) _ (by omega))) rfl (by rw [sx_length, Nat.mul_one]) rfl (by first | rfl | exact sx_scal _) rfl (by omega) (by omega)) ?_
        rintro ⟨a52, c52⟩
        refine VL.r (.inl rfl) rfl (by decide) (yr_assign rfl rfl) ?_
        refine VL.nil ?_
        refine VE.then_wp ?_
        refine V.seq ?_
        refine V.region ?_
        refine VL.r (.inl rfl) rfl (by decide) (yr_move rfl rfl) ?_
        refine VL.r (.inl rfl) rfl (by decide) (yr_assign rfl rfl) ?_
        refine VL.nil ?_
        refine VE.then_wp ?_
        refine V.region ?_
        refine VL.r (.inl rfl) rfl (by decide) (yr_move rfl rfl) ?_
        refine VL.r (.inl rfl) rfl (by decide) (yr_move rfl rfl) ?_
        refine VL.r (.inl rfl) rfl (by decide) (yr_addN (i + 1) rfl rfl rfl (by rw [hi]; omega) (by omega)) ?_
        refine VL.r (.inl rfl) rfl (by decide) (yr_addN (b + i + 1) rfl rfl rfl (by omega) (by omega)) ?_
        refine VL.r (.inl rfl) rfl (by decide) (yr_assign rfl rfl) ?_
        refine VL.nil ?_
        refine VE.block_normal ?_
        refine VE.round (b + i + 1, chk c (txt (s.extract b (b + i))), out ++ [txt (s.extract b (b + i))], a52, c52) ?_ ?_ ?_ ?_ ?_
        · exact (.cons (congrArg (fun n => some (Value.slice _ n _)) (by first | rfl | (rw [List.length_append]; rfl))) (.cons rfl (.cons rfl .nil)))
        · exact (.cons rfl .nil)
        · exact (fun w hw => by dsimp only; rw [← sx_snoc]; exact hw.pick (by apply Pick.one; repeat (first | exact Rem.here | apply Rem.there)))
        · exact ⟨goB_step hG hb9 hi (good_y (by assumption) (by assumption)), by omega, chk_lt hc9, by rw [List.length_append, List.length_singleton]; omega⟩
        · (try dsimp only); omega

theorem c_implRj {w : World} {s : ByteArray} {m : Int} (hM : Cl w (some ⟨0, 0, none⟩) [.int .i64 m]) (hT : Go.Lib.TabIs Tryd.prog w "internal/strconv.uint64pow10" .u64 Go.Lib.pow10Tab) : New Tryd.prog 15 [.string s] w (fun p : Option Addr × Nat => .tuple #[.slice p.1 (rO s).length p.2, .int .i64 ((rN s : Nat) : Int), .bool (rB s)]) (fun p => [⟨p.1, sx (rO s), p.2 * 1, 9⟩]) := by
  refine New.enter Tryd.func15 rfl Tryd.ntmps15 (Nat.le_of_ble_eq_true rfl) ?_
  refine V.seq ?_
  refine V.region ?_
  refine VL.r (.inl rfl) rfl (by decide) (yr_assign (u := .slice none 0 0) rfl rfl) ?_
  refine VL.r (.inl rfl) rfl (by decide) (yr_assign (u := .int .i64 0) rfl rfl) ?_
  refine VL.r (.inl rfl) rfl (by decide) (yr_assign (u := .bool false) rfl rfl) ?_
  refine VL.nil ?_
  refine VE.then_wp ?_
  refine V.seq ?_
  refine V.seq ?_
  refine V.region ?_
  refine VL.r (.inl rfl) rfl (by decide) (yr_move rfl rfl) ?_
  refine VL.r (.inl rfl) rfl (by decide) (yr_lenString rfl Tryd.underlying9 rfl) ?_
  refine VL.r (.inl rfl) rfl (by decide) (yr_icmp rfl (.inr (.inr (.inr (.inr (.inl rfl))))) rfl rfl) ?_
  refine VL.nil ?_
  refine VE.then_wp ?_
  refine V.cond rfl (fun h1 => ?_) (fun h1 => ?_)
  · skip
    replace h1 := ic_gtr h1
    refine V.seq ?_
    refine V.region ?_
    refine VL.r (.inl rfl) rfl (by decide) (yr_assign (u := .slice none 0 0) rfl rfl) ?_
    refine VL.r (.inl rfl) rfl (by decide) (yr_assign (u := .int .i64 0) rfl rfl) ?_
    refine VL.r (.inl rfl) rfl (by decide) (yr_assign (u := .bool false) rfl rfl) ?_
    refine VL.nil ?_
    refine VE.then_wp ?_
    refine V.ret ?_
    refine VE.then_ret ?_
    refine ret3 rfl rfl rfl rfl (by nofun) (by nofun) (by nofun) (fun w1 hw => ?_)
    obtain ⟨e1, e2, e3⟩ := r_no (s := s) (by omega)
    exact ⟨(none, 0), by first | (rw [e1, e2, e3]; done) | (rw [e1, e2, e3]; rfl), by rw [e1]; exact (hw.nilJ 9).out1⟩
  · skip
    replace h1 := ic_gtr' h1
    refine V.skip ?_
    refine VE.then_wp ?_
    refine V.seq ?_
    refine V.region ?_
    refine VL.r (.inl rfl) rfl (by decide) (yr_move rfl rfl) ?_
    refine VL.new1 (.inl rfl) rfl (by decide) (yn_callf rfl known32_Jr (.cons rfl .nil) (fun w hw => (c_recovered (by first | exact Sees.root (by assumption) w hw | exact Sees.own (by repeat (first | exact List.mem_cons_self | exact List.mem_append_left _ (by assumption) | apply List.mem_cons_of_mem | apply List.mem_append_right)) w hw) (tab_keep hT hw.below) (by omega)))) ?_
    rintro ⟨a12, c12⟩
    refine VL.r (.inl rfl) rfl (by decide) (yr_move rfl rfl) ?_
    refine VL.r (.inl rfl) rfl (by decide) (yr_extract rfl rfl rfl (by nofun)) ?_
    refine VL.r (.inl rfl) rfl (by decide) (yr_extract rfl rfl rfl (by nofun)) ?_
    refine VL.r (.inl rfl) rfl (by decide) (yr_assign rfl rfl) ?_
    refine VL.r (.inl rfl) rfl (by decide) (yr_assign rfl rfl) ?_
    refine VL.nil ?_
    refine VE.then_wp ?_
    refine V.seq ?_
    refine V.region ?_
    refine VL.r (.inl rfl) rfl (by decide) (yr_move rfl rfl) ?_
    refine VL.r (.inl rfl) rfl (by decide) (yr_move rfl rfl) ?_
    refine VL.r (.inl rfl) rfl (by decide) (yr_assign rfl rfl) ?_
    refine VL.r (.inl rfl) rfl (by decide) (yr_assign rfl rfl) ?_
    refine VL.r (.inl rfl) rfl (by decide) (yr_assign (u := .bool true) rfl rfl) ?_
    refine VL.nil ?_
    refine VE.then_wp ?_
    refine V.ret ?_
    refine ret3 rfl rfl rfl rfl (by nofun) (by nofun) (by nofun) (fun w1 hw => ?_)
    obtain ⟨e1, e2, e3⟩ := r_yes (s := s) (by omega)
    exact ⟨(a12, c12), by first | (rw [e1, e2, e3]; done) | (rw [e1, e2, e3]; rfl), by rw [e1]; exact hw.out1⟩

theorem c_l08Rec {w : World} {s : ByteArray} (hs : s.size ≤ 12000) : New Tryd.prog 31 [.string s] w (fun p : Option Addr × Nat => .tuple #[.slice p.1 (recO s).length p.2, .int .i64 ((recN s : Nat) : Int)]) (fun p => [⟨p.1, sx (recO s), p.2 * 1, 9⟩]) := by
  refine New.enter Tryd.func31 rfl Tryd.ntmps31 (Nat.le_of_ble_eq_true rfl) ?_
  have hN := lnB_len s
  have hN2 := lnB_le s
  refine V.seq ?_
  refine V.region ?_
  refine VL.r (.inl rfl) rfl (by decide) (yr_assign (u := .slice none 0 0) rfl rfl) ?_
  refine VL.r (.inl rfl) rfl (by decide) (yr_assign (u := .int .i64 0) rfl rfl) ?_
  refine VL.nil ?_
  refine VE.then_wp ?_
  refine V.seq ?_
  refine V.region ?_
  refine VL.r (.inl rfl) rfl (by decide) (yr_move rfl rfl) ?_
  refine VL.new1 (.inl rfl) rfl (by decide) (yn_callf rfl known22_Jr (.cons rfl .nil) (fun w hw => (c_l08Lines (by omega)))) ?_
  rintro ⟨⟨a14, c14⟩, hc14⟩
  dsimp only at hc14
  refine VL.r (.inl rfl) rfl (by decide) (yr_move rfl rfl) ?_
  refine VL.r (.inl rfl) rfl (by decide) (yr_extract rfl rfl rfl (by nofun)) ?_
  refine VL.r (.inl rfl) rfl (by decide) (yr_extract rfl rfl rfl (by nofun)) ?_
  refine VL.r (.inl rfl) rfl (by decide) (yr_assign rfl rfl) ?_
  refine VL.r (.inl rfl) rfl (by decide) (yr_assign rfl rfl) ?_
  refine VL.nil ?_
  refine VE.then_wp ?_
  refine V.seq ?_
  refine V.region ?_
  refine VL.new1 (.inl rfl) rfl (by decide) (yn_lit rfl Tryd.underlying25 elt9_Jr rfl (by decide) .nil (by first | (simp; done) | (simp [cn, cn1, cn0]; done)) rfl rfl rfl) ?_
  intro b17
  refine VL.r (.inl rfl) rfl (by decide) (yr_assign rfl rfl) ?_
  refine VL.nil ?_
  refine VE.then_wp ?_
  refine V.seq ?_
  refine V.region ?_
  refine VL.r (.inl rfl) rfl (by decide) (yr_assign (u := .int .i64 0) rfl rfl) ?_
  refine VL.nil ?_
  refine VE.then_wp ?_
  refine V.seq ?_
  refine V.region ?_
  refine VL.r (.inl rfl) rfl (by decide) (yr_assign (u := .int .i64 0) rfl rfl) ?_
  refine VL.nil ?_
  refine VE.then_wp ?_
  refine V.seq ?_
  refine V.seq ?_
  refine V.region ?_
  refine VL.r (.inl rfl) rfl (by decide) (yr_assign (u := .int .i64 0) rfl rfl) ?_
  refine VL.nil ?_
  refine VE.then_wp ?_
  refine V.block ?_
  refine V.loopc (G := Nat × Nat × (List ByteArray) × Nat × (Option Addr) × Nat) [(4, _)] (fun ⟨i, c, out, n, ar, cr⟩ => GoI s i c out n ∧ i ≤ ((lnB s).length - 1) ∧ c < 65003 ∧ out.length ≤ i ∧ n ≤ i * 12001) (fun ⟨i, c, out, n, ar, cr⟩ => [⟨ar, sx out, cr * 1, 9⟩, ⟨some ⟨a14, 0, none⟩, sx (lnB s), c14 * 1, 9⟩]) (fun ⟨i, c, out, n, ar, cr⟩ => [(6, .slice ar out.length cr), (7, .int .i64 (c : Int)), (8, .int .i64 (n : Int)), (9, .int .i64 (i : Int))]) (fun ⟨i, c, out, n, ar, cr⟩ => ((lnB s).length - 1) - i) (0, 0, [], 0, some ⟨b17, 0, none⟩, 0) (.cons rfl .nil) (.cons rfl (.cons rfl (.cons rfl (.cons rfl .nil)))) ?_ ?_ ?_
  · exact (fun w hw => hw)
  · exact (by exact ⟨goI_0 s, Nat.zero_le _, by decide, Nat.le_refl _, Nat.le_refl _⟩)
  rintro ⟨i, c, out, n, ar, cr⟩ ⟨hG, hi9, hc9, ho9, hn9⟩
  show V _ _ _ [⟨ar, sx out, cr * 1, 9⟩, ⟨some ⟨a14, 0, none⟩, sx (lnB s), c14 * 1, 9⟩] ([(6, .slice ar out.length cr), (7, .int .i64 (c : Int)), (8, .int .i64 (n : Int)), (9, .int .i64 (i : Int))] ++ [(4, _)]) _ _
  have hLs := lnB_size (s := s) (k := i)
  refine V.seq ?_
  refine V.seq ?_
  refine V.region ?_
  refine VL.r (.inl rfl) rfl (by decide) (yr_move rfl rfl) ?_
  refine VL.r (.inl rfl) rfl (by decide) (yr_move rfl rfl) ?_
  refine VL.r (.inl rfl) rfl (by decide) (yr_len rfl Tryd.underlying25 rfl) ?_
  refine VL.r (.inl rfl) rfl (by decide) (yr_icmp rfl (.inr (.inr (.inl rfl))) rfl rfl) ?_
  refine VL.nil ?_
  refine VE.then_wp ?_
  refine V.cond rfl (fun h1 => ?_) (fun h1 => ?_)
  · skip
    replace h1 := ic_lss h1
    refine V.skip ?_
    refine VE.then_wp ?_
    refine V.seq ?_
    refine V.block ?_
    refine V.seq ?_
    refine V.region ?_
    refine VL.r (.inl rfl) rfl (by decide) (yr_assign (u := .int .i64 0) rfl rfl) ?_
    refine VL.nil ?_
    refine VE.then_wp ?_
    refine V.seq ?_
    refine V.block ?_
    refine V.loopc (G := Nat) [(4, _), (6, _), (7, _), (8, _), (9, _)] (fun (q : Nat) => q ≤ ((lnB s).getD i emB).size ∧ ∀ j, j < q → sb ((lnB s).getD i emB) j ≠ 32) (fun (q : Nat) => [⟨ar, sx out, cr * 1, 9⟩, ⟨some ⟨a14, 0, none⟩, sx (lnB s), c14 * 1, 9⟩]) (fun (q : Nat) => [(10, .int .i64 (q : Int))]) (fun (q : Nat) => ((lnB s).getD i emB).size - q) 0 (.cons rfl (.cons rfl (.cons rfl (.cons rfl (.cons rfl .nil))))) (.cons rfl .nil) ?_ ?_ ?_
    · exact (fun w hw => hw)
    · exact (by exact ⟨Nat.zero_le _, fun j hj => absurd hj (Nat.not_lt_zero _)⟩)
    rintro q ⟨hql9, hq9⟩
    show V _ _ _ [⟨ar, sx out, cr * 1, 9⟩, ⟨some ⟨a14, 0, none⟩, sx (lnB s), c14 * 1, 9⟩] ([(10, .int .i64 (q : Int))] ++ [(4, _), (6, _), (7, _), (8, _), (9, _)]) _ _
    refine V.seq ?_
    refine V.seq ?_
    refine V.region ?_
    refine VL.r (.inl rfl) rfl (by decide) (yr_move rfl rfl) ?_
    refine VL.r (.inl rfl) rfl (by decide) (yr_move rfl rfl) ?_
    refine VL.r (.inl rfl) rfl (by decide) (yr_move rfl rfl) ?_
    refine VL.q (.inl rfl) rfl (by decide) (yq_idx (k := i) rfl Tryd.underlying25 sz9_Jr rfl rfl (Sees.takeS (sx (lnB s)) ((lnB s).length - 1) (by first | exact Sees.root (by assumption) | exact Sees.own (by repeat (first | exact List.mem_cons_self | exact List.mem_append_left _ (by assumption) | apply List.mem_cons_of_mem | apply List.mem_append_right)) | exact Sees.root (hR _ (by omega)) | exact Sees.own (RowsIn.mem (by repeat (first | exact RowsIn.here | exact RowsIn.last | apply RowsIn.there | apply RowsIn.thereS)) _ (by omega)) | exact Sees.own (WRowsIn.mem (by repeat (first | exact WRowsIn.here | exact WRowsIn.last | apply WRowsIn.there | apply WRowsIn.thereS)) _ (by omega)))) rfl (take_len (by omega)) (by omega)) ?_
    refine VL.q (.inl rfl) rfl (by decide) (yq_load (u := .string ((lnB s).getD i emB)) rfl fb9_Jr rfl (by first | exact Sees.root (by assumption) | exact Sees.own (by repeat (first | exact List.mem_cons_self | exact List.mem_append_left _ (by assumption) | apply List.mem_cons_of_mem | apply List.mem_append_right)) | exact Sees.root (hR _ (by omega)) | exact Sees.own (RowsIn.mem (by repeat (first | exact RowsIn.here | exact RowsIn.last | apply RowsIn.there | apply RowsIn.thereS)) _ (by omega)) | exact Sees.own (WRowsIn.mem (by repeat (first | exact WRowsIn.here | exact WRowsIn.last | apply WRowsIn.there | apply WRowsIn.thereS)) _ (by omega))) (sx_get (by omega))) ?_
    refine VL.r (.inl rfl) rfl (by decide) (yr_lenString rfl Tryd.underlying9 rfl) ?_
    refine VL.r (.inl rfl) rfl (by decide) (yr_icmp rfl (.inr (.inr (.inl rfl))) rfl rfl) ?_
    refine VL.r (.inl rfl) rfl (by decide) (yr_move rfl rfl) ?_
    refine VX.split 31 _ rfl (fun h2 => ?_) (fun h2 => ?_)
    · skip
      replace h2 := ic_lss h2
      refine VL.r (.inr ⟨_, _, _, rfl, rfl, rfl⟩) rfl (by decide) (yr_move rfl rfl) ?_
      refine VL.r (.inr ⟨_, _, _, rfl, rfl, rfl⟩) rfl (by decide) (yr_move rfl rfl) ?_
      refine VL.q (.inr ⟨_, _, _, rfl, rfl, rfl⟩) rfl (by decide) (yq_idx (k := i) rfl Tryd.underlying25 sz9_Jr rfl rfl (Sees.takeS (sx (lnB s)) ((lnB s).length - 1) (by first | exact Sees.root (by assumption) | exact Sees.own (by repeat (first | exact List.mem_cons_self | exact List.mem_append_left _ (by assumption) | apply List.mem_cons_of_mem | apply List.mem_append_right)) | exact Sees.root (hR _ (by omega)) | exact Sees.own (RowsIn.mem (by repeat (first | exact RowsIn.here | exact RowsIn.last | apply RowsIn.there | apply RowsIn.thereS)) _ (by omega)) | exact Sees.own (WRowsIn.mem (by repeat (first | exact WRowsIn.here | exact WRowsIn.last | apply WRowsIn.there | apply WRowsIn.thereS)) _ (by omega)))) rfl (take_len (by omega)) (by omega)) ?_
      refine VL.q (.inr ⟨_, _, _, rfl, rfl, rfl⟩) rfl (by decide) (yq_load (u := .string ((lnB s).getD i emB)) rfl fb9_Jr rfl (by first | exact Sees.root (by assumption) | exact Sees.own (by repeat (first | exact List.mem_cons_self | exact List.mem_append_left _ (by assumption) | apply List.mem_cons_of_mem | apply List.mem_append_right)) | exact Sees.root (hR _ (by omega)) | exact Sees.own (RowsIn.mem (by repeat (first | exact RowsIn.here | exact RowsIn.last | apply RowsIn.there | apply RowsIn.thereS)) _ (by omega)) | exact Sees.own (WRowsIn.mem (by repeat (first | exact WRowsIn.here | exact WRowsIn.last | apply WRowsIn.there | apply WRowsIn.thereS)) _ (by omega))) (sx_get (by omega))) ?_
      refine VL.r (.inr ⟨_, _, _, rfl, rfl, rfl⟩) rfl (by decide) (yr_move rfl rfl) ?_
      refine VL.r (.inr ⟨_, _, _, rfl, rfl, rfl⟩) rfl (by decide) (yr_strByte (i := q) rfl Tryd.underlying9 rfl rfl (by first | rfl | omega | (push_cast; rfl) | (push_cast; omega)) (by omega)) ?_
      refine VL.r (.inr ⟨_, _, _, rfl, rfl, rfl⟩) rfl (by decide) (yr_icmp rfl (.inr (.inl rfl)) rfl rfl) ?_
      refine VL.r (.inl rfl) rfl (by decide) (yr_pick_t rfl rfl rfl) ?_
      refine VL.nil ?_
      refine VE.then_wp ?_
      refine V.cond rfl (fun h3 => ?_) (fun h3 => ?_)
      · skip
        replace h3 := ic_neq h3
        refine V.skip ?_
        refine VE.then_wp ?_
        refine V.block ?_
        refine V.region ?_
        refine VL.r (.inl rfl) rfl (by decide) (yr_move rfl rfl) ?_
        refine VL.r (.inl rfl) rfl (by decide) (yr_int rfl rfl rfl (.inl ⟨rfl, wrap_in (by omega)⟩)) ?_
        refine VL.r (.inl rfl) rfl (by decide) (yr_assign rfl rfl) ?_
        refine VL.nil ?_
        refine VE.block_normal ?_
        refine VE.round (q + 1) ?_ ?_ ?_ ?_ ?_
        · exact (.cons rfl .nil)
        · exact (.cons rfl (.cons rfl (.cons rfl (.cons rfl (.cons rfl .nil)))))
        · exact (fun w hw => hw)
        · refine ⟨by omega, fun j hj => ?_⟩
          rcases Nat.lt_or_ge j q with h9 | h9
          · exact hq9 j h9
          · obtain rfl : j = q := by omega
            omega
        · (try dsimp only); omega
      · skip
        replace h3 := ic_neq' h3
        refine V.exit ?_
        refine VE.then_exit ?_
        refine VE.then_exit ?_
        refine VE.block_here ?_
        refine VE.then_wp ?_
        refine V.seq ?_
        refine V.seq ?_
        refine V.region ?_
        refine VL.r (.inl rfl) rfl (by decide) (yr_move rfl rfl) ?_
        refine VL.r (.inl rfl) rfl (by decide) (yr_move rfl rfl) ?_
        refine VL.r (.inl rfl) rfl (by decide) (yr_move rfl rfl) ?_
        refine VL.q (.inl rfl) rfl (by decide) (yq_idx (k := i) rfl Tryd.underlying25 sz9_Jr rfl rfl (Sees.takeS (sx (lnB s)) ((lnB s).length - 1) (by first | exact Sees.root (by assumption) | exact Sees.own (by repeat (first | exact List.mem_cons_self | exact List.mem_append_left _ (by assumption) | apply List.mem_cons_of_mem | apply List.mem_append_right)) | exact Sees.root (hR _ (by omega)) | exact Sees.own (RowsIn.mem (by repeat (first | exact RowsIn.here | exact RowsIn.last | apply RowsIn.there | apply RowsIn.thereS)) _ (by omega)) | exact Sees.own (WRowsIn.mem (by repeat (first | exact WRowsIn.here | exact WRowsIn.last | apply WRowsIn.there | apply WRowsIn.thereS)) _ (by omega)))) rfl (take_len (by omega)) (by omega)) ?_
        refine VL.q (.inl rfl) rfl (by decide) (yq_load (u := .string ((lnB s).getD i emB)) rfl fb9_Jr rfl (by first | exact Sees.root (by assumption) | exact Sees.own (by repeat (first | exact List.mem_cons_self | exact List.mem_append_left _ (by assumption) | apply List.mem_cons_of_mem | apply List.mem_append_right)) | exact Sees.root (hR _ (by omega)) | exact Sees.own (RowsIn.mem (by repeat (first | exact RowsIn.here | exact RowsIn.last | apply RowsIn.there | apply RowsIn.thereS)) _ (by omega)) | exact Sees.own (WRowsIn.mem (by repeat (first | exact WRowsIn.here | exact WRowsIn.last | apply WRowsIn.there | apply WRowsIn.thereS)) _ (by omega))) (sx_get (by omega))) ?_
        refine VL.r (.inl rfl) rfl (by decide) (yr_lenString rfl Tryd.underlying9 rfl) ?_
        refine VL.r (.inl rfl) rfl (by decide) (yr_icmp rfl (.inl rfl) rfl rfl) ?_
        refine VL.nil ?_
        refine VE.then_wp ?_
        refine V.cond rfl (fun h4 => ?_) (fun h4 => ?_)
        · skip
          replace h4 := ic_eql h4
          refine V.exit ?_
          refine VE.then_exit ?_
          refine VE.block_on rfl ?_
          refine VE.then_exit ?_
          refine VE.then_exit ?_
          refine VE.block_here ?_
          refine VE.then_wp ?_
          refine V.seq ?_
          refine V.region ?_
          refine VL.r (.inl rfl) rfl (by decide) (yr_move rfl rfl) ?_
          refine VL.r (.inl rfl) rfl (by decide) (yr_move rfl rfl) ?_
          refine VL.r (.inl rfl) rfl (by decide) (yr_assign rfl rfl) ?_
          refine VL.r (.inl rfl) rfl (by decide) (yr_assign rfl rfl) ?_
          refine VL.nil ?_
          refine VE.then_wp ?_
          refine V.ret ?_
          refine ret2 rfl rfl rfl (by nofun) (by nofun) (fun w1 hw => ?_)
          exfalso; omega
        · skip
          replace h4 := ic_eql' h4
          have hsp : sb ((lnB s).getD i emB) q = 32 ∧ q < ((lnB s).getD i emB).size := ⟨by omega, by omega⟩
          have hT9 := txt_size ((lnB s).getD i emB)
          have hck := chk_lt (s := txt ((lnB s).getD i emB)) hc9
          refine V.skip ?_
          refine VE.then_wp ?_
          refine V.seq ?_
          refine V.region ?_
          refine VL.r (.inl rfl) rfl (by decide) (yr_move rfl rfl) ?_
          refine VL.r (.inl rfl) rfl (by decide) (yr_move rfl rfl) ?_
          refine VL.q (.inl rfl) rfl (by decide) (yq_idx (k := i) rfl Tryd.underlying25 sz9_Jr rfl rfl (Sees.takeS (sx (lnB s)) ((lnB s).length - 1) (by first | exact Sees.root (by assumption) | exact Sees.own (by repeat (first | exact List.mem_cons_self | exact List.mem_append_left _ (by assumption) | apply List.mem_cons_of_mem | apply List.mem_append_right)) | exact Sees.root (hR _ (by omega)) | exact Sees.own (RowsIn.mem (by repeat (first | exact RowsIn.here | exact RowsIn.last | apply RowsIn.there | apply RowsIn.thereS)) _ (by omega)) | exact Sees.own (WRowsIn.mem (by repeat (first | exact WRowsIn.here | exact WRowsIn.last | apply WRowsIn.there | apply WRowsIn.thereS)) _ (by omega)))) rfl (take_len (by omega)) (by omega)) ?_
          refine VL.q (.inl rfl) rfl (by decide) (yq_load (u := .string ((lnB s).getD i emB)) rfl fb9_Jr rfl (by first | exact Sees.root (by assumption) | exact Sees.own (by repeat (first | exact List.mem_cons_self | exact List.mem_append_left _ (by assumption) | apply List.mem_cons_of_mem | apply List.mem_append_right)) | exact Sees.root (hR _ (by omega)) | exact Sees.own (RowsIn.mem (by repeat (first | exact RowsIn.here | exact RowsIn.last | apply RowsIn.there | apply RowsIn.thereS)) _ (by omega)) | exact Sees.own (WRowsIn.mem (by repeat (first | exact WRowsIn.here | exact WRowsIn.last | apply WRowsIn.there | apply WRowsIn.thereS)) _ (by omega))) (sx_get (by omega))) ?_
          refine VL.r (.inl rfl) rfl (by decide) (yr_move rfl rfl) ?_
          refine VL.r (.inl rfl) rfl (by decide) (yr_addN (q + 1) rfl rfl rfl (by omega) (by omega)) ?_
          refine VL.r (.inl rfl) rfl (by decide) (YR.cast (u' := .string (txt ((lnB s).getD i emB))) (by rw [(spm hq9 hsp.2 hsp.1).2.1]) (yr_strPart (l := q + 1) (h := ((lnB s).getD i emB).size) rfl Tryd.underlying9 rfl (OptI.at rfl (by omega)) OptI.no (by omega) (by omega))) ?_
          refine VL.r (.inl rfl) rfl (by decide) (yr_assign rfl rfl) ?_
          refine VL.nil ?_
          refine VE.then_wp ?_
          refine V.seq ?_
          refine V.region ?_
          refine VL.r (.inl rfl) rfl (by decide) (yr_move rfl rfl) ?_
          refine VL.r (.inl rfl) rfl (by decide) (yr_move rfl rfl) ?_
          refine VL.q (.inl rfl) rfl (by decide) (yq_callf rfl known40_Jr (.cons rfl (.cons rfl .nil)) (fun w hw => (c_check (by omega) (by omega)))) ?_
          refine VL.r (.inl rfl) rfl (by decide) (yr_assign rfl rfl) ?_
          refine VL.nil ?_
          refine VE.then_wp ?_
          refine V.seq ?_
          refine V.seq ?_
          refine Dr.V.drawR [(0, 5), (1, 5), (2, 5), (3, 5), (4, 5), (5, 5), (6, 5), (7, 5), (8, 5)] [] [] _ mixed_Jr (by kernel_rfl) (fun w hw => hw) ?_
          refine Dr.SW.r rfl (.inl rfl) rfl (by decide) (yr_move rfl rfl) ?_
          refine Dr.SW.r rfl (.inl rfl) rfl (by decide) (yr_move rfl rfl) ?_
          refine Dr.SW.p rfl (.inl rfl) rfl (by decide) (yq_idx (k := i) rfl Tryd.underlying25 sz9_Jr rfl rfl (Sees.takeS (sx (lnB s)) ((lnB s).length - 1) (by first | exact Sees.root (by assumption) | exact Sees.own (by (try simp only [List.append_assoc, List.cons_append, List.nil_append]); repeat (first | exact List.mem_cons_self | exact List.mem_append_left _ (by assumption) | apply List.mem_cons_of_mem | apply List.mem_append_right)) | exact Sees.root (hR _ (by omega)) | exact Sees.own (RowsIn.mem (by (try simp only [List.append_assoc, List.cons_append, List.nil_append]); repeat (first | exact RowsIn.here | exact RowsIn.last | apply RowsIn.there | apply RowsIn.thereS)) _ (by omega)) | exact Sees.own (WRowsIn.mem (by (try simp only [List.append_assoc, List.cons_append, List.nil_append]); repeat (first | exact WRowsIn.here | exact WRowsIn.last | apply WRowsIn.there | apply WRowsIn.thereS)) _ (by omega)))) rfl (take_len (by omega)) (by omega)) ?_
          refine Dr.SW.p rfl (.inl rfl) rfl (by decide) (yq_load (u := .string ((lnB s).getD i emB)) rfl fb9_Jr rfl (by first | exact Sees.root (by assumption) | exact Sees.own (by (try simp only [List.append_assoc, List.cons_append, List.nil_append]); repeat (first | exact List.mem_cons_self | exact List.mem_append_left _ (by assumption) | apply List.mem_cons_of_mem | apply List.mem_append_right)) | exact Sees.root (hR _ (by omega)) | exact Sees.own (RowsIn.mem (by (try simp only [List.append_assoc, List.cons_append, List.nil_append]); repeat (first | exact RowsIn.here | exact RowsIn.last | apply RowsIn.there | apply RowsIn.thereS)) _ (by omega)) | exact Sees.own (WRowsIn.mem (by (try simp only [List.append_assoc, List.cons_append, List.nil_append]); repeat (first | exact WRowsIn.here | exact WRowsIn.last | apply WRowsIn.there | apply WRowsIn.thereS)) _ (by omega))) (sx_get (by omega))) ?_
          refine Dr.SW.r rfl (.inl rfl) rfl (by decide) (yr_move rfl rfl) ?_
          refine Dr.SW.r rfl (.inl rfl) rfl (by decide) (YR.cast (u' := .string (num ((lnB s).getD i emB))) (by rw [(spm hq9 hsp.2 hsp.1).1]) (yr_strPart (l := 0) (h := q) rfl Tryd.underlying9 rfl OptI.no (OptI.at rfl (by omega)) (by omega) (by omega))) ?_
          refine Dr.SW.r rfl (.inl rfl) rfl (by decide) (yr_move rfl rfl) ?_
          refine Dr.SW.p rfl (.inl rfl) rfl (by decide) (yq_callf rfl known41_Jr (.cons rfl .nil) (fun w hw => (c_dec (by omega)))) ?_
          refine Dr.SW.r rfl (.inl rfl) rfl (by decide) (yr_scmp rfl rfl rfl (.inr rfl)) ?_
          refine Dr.SW.done ?_
          refine Dr.eqO (by simp only [List.append_nil, List.append_assoc, List.cons_append, List.nil_append] <;> rfl) ?_
          refine VE.then_wp ?_
          refine V.cond rfl (fun h5 => ?_) (fun h5 => ?_)
          · skip
            refine V.exit ?_
            refine VE.then_exit ?_
            refine VE.block_on rfl ?_
            refine VE.then_exit ?_
            refine VE.then_exit ?_
            refine VE.block_here ?_
            refine VE.then_wp ?_
            refine V.seq ?_
            refine V.region ?_
            refine VL.r (.inl rfl) rfl (by decide) (yr_move rfl rfl) ?_
            refine VL.r (.inl rfl) rfl (by decide) (yr_move rfl rfl) ?_
            refine VL.r (.inl rfl) rfl (by decide) (yr_assign rfl rfl) ?_
            refine VL.r (.inl rfl) rfl (by decide) (yr_assign rfl rfl) ?_
            refine VL.nil ?_
            refine VE.then_wp ?_
            refine V.ret ?_
            refine ret2 rfl rfl rfl (by nofun) (by nofun) (fun w1 hw => ?_)
            obtain ⟨e1, e2⟩ := goI_bad hG (by omega) (good_n2 (by assumption))
            exact ⟨(ar, cr), by first | (rw [← e1, ← e2]; done) | (rw [← e1, ← e2]; rfl), by rw [← e1]; exact hw.out1⟩
          · skip
            refine V.skip ?_
            refine VE.then_wp ?_
            refine V.seq ?_
            refine V.region ?_
            refine VL.r (.inl rfl) rfl (by decide) (yr_move rfl rfl) ?_
            refine VL.r (.inl rfl) rfl (by decide) (yr_move rfl rfl) ?_
            refine VL.new1 (.inl rfl) rfl (by decide) (yn_lit rfl Tryd.underlying25 elt9_Jr rfl (by decide) (.cons rfl .nil) (by first | (simp; done) | (simp [cn, cn1, cn0]; done)) rfl rfl rfl) ?_
            intro b70
            refine VL.c (.inl rfl) rfl (by decide) (yc_appendz 1 rfl rfl Tryd.underlying25 elt9_Jr rfl rfl (by repeat (first | exact UpdF.here | apply UpdF.there | apply UpdF.thereS)) (by first | exact Sees.root (by assumption) | exact Sees.own (by repeat (first | exact List.mem_cons_self | exact List.mem_append_left _ (by assumption) | apply List.mem_cons_of_mem | apply List.mem_append_right)) | exact Sees.root (hR _ (by omega)) | exact Sees.own (RowsIn.mem (by repeat (first | exact RowsIn.here | exact RowsIn.last | apply RowsIn.there | apply RowsIn.thereS)) _ (by omega)) | exact Sees.own (WRowsIn.mem (by repeat (first | exact WRowsIn.here | exact WRowsIn.last | apply WRowsIn.there | apply WRowsIn.thereS)) _ (by omega))) rfl (by rw [sx_length, Nat.mul_one]) rfl (by first | rfl | exact sx_scal _) rfl (by omega) (by omega)) ?_
            rintro ⟨a71, c71⟩
            refine VL.r (.inl rfl) rfl (by decide) (yr_assign rfl rfl) ?_
            refine VL.nil ?_
            refine VE.then_wp ?_
            refine V.region ?_
            refine VL.r (.inl rfl) rfl (by decide) (yr_move rfl rfl) ?_
            refine VL.r (.inl rfl) rfl (by decide) (yr_move rfl rfl) ?_
            refine VL.r (.inl rfl) rfl (by decide) (yr_move rfl rfl) ?_
            refine VL.q (.inl rfl) rfl (by decide) (yq_idx (k := i) rfl Tryd.underlying25 sz9_Jr rfl rfl (Sees.takeS (sx (lnB s)) ((lnB s).length - 1) (by first | exact Sees.root (by assumption) | exact Sees.own (by repeat (first | exact List.mem_cons_self | exact List.mem_append_left _ (by assumption) | apply List.mem_cons_of_mem | apply List.mem_append_right)) | exact Sees.root (hR _ (by omega)) | exact Sees.own (RowsIn.mem (by repeat (first | exact RowsIn.here | exact RowsIn.last | apply RowsIn.there | apply RowsIn.thereS)) _ (by omega)) | exact Sees.own (WRowsIn.mem (by repeat (first | exact WRowsIn.here | exact WRowsIn.last | apply WRowsIn.there | apply WRowsIn.thereS)) _ (by omega)))) rfl (take_len (by omega)) (by omega)) ?_
            refine VL.q (.inl rfl) rfl (by decide) (yq_load (u := .string ((lnB s).getD i emB)) rfl fb9_Jr rfl (by first | exact Sees.root (by assumption) | exact Sees.own (by repeat (first | exact List.mem_cons_self | exact List.mem_append_left _ (by assumption) | apply List.mem_cons_of_mem | apply List.mem_append_right)) | exact Sees.root (hR _ (by omega)) | exact Sees.own (RowsIn.mem (by repeat (first | exact RowsIn.here | exact RowsIn.last | apply RowsIn.there | apply RowsIn.thereS)) _ (by omega)) | exact Sees.own (WRowsIn.mem (by repeat (first | exact WRowsIn.here | exact WRowsIn.last | apply WRowsIn.there | apply WRowsIn.thereS)) _ (by omega))) (sx_get (by omega))) ?_
            refine VL.r (.inl rfl) rfl (by decide) (yr_lenString rfl Tryd.underlying9 rfl) ?_
            refine VL.r (.inl rfl) rfl (by decide) (yr_addN (((lnB s).getD i emB).size + 1) rfl rfl rfl (by omega) (by omega)) ?_
            refine VL.r (.inl rfl) rfl (by decide) (yr_addN (n + ((lnB s).getD i emB).size + 1) rfl rfl rfl (by omega) (by omega)) ?_
            refine VL.r (.inl rfl) rfl (by decide) (yr_assign rfl rfl) ?_
            refine VL.nil ?_
            refine VE.block_normal ?_
            refine VE.then_wp ?_
            refine V.region ?_
            refine VL.r (.inl rfl) rfl (by decide) (yr_move rfl rfl) ?_
            refine VL.r (.inl rfl) rfl (by decide) (yr_int rfl rfl rfl (.inl ⟨rfl, wrap_in (by omega)⟩)) ?_
            refine VL.r (.inl rfl) rfl (by decide) (yr_assign rfl rfl) ?_
            refine VL.nil ?_
            refine VE.round (i + 1, chk c (txt ((lnB s).getD i emB)), out ++ [txt ((lnB s).getD i emB)], n + ((lnB s).getD i emB).size + 1, a71, c71) ?_ ?_ ?_ ?_ ?_
            · exact (.cons (congrArg (fun n => some (Value.slice _ n _)) (by first | rfl | (rw [List.length_append]; rfl))) (.cons rfl (.cons rfl (.cons rfl .nil))))
            · exact (.cons rfl .nil)
            · exact (fun w hw => by dsimp only; rw [← sx_snoc]; exact hw.pick (by apply Pick.two; all_goals (repeat (first | exact Rem.here | apply Rem.there))))
            · exact ⟨goI_step hG (by omega) (good_y (spm hq9 hsp.2 hsp.1).2.2 (by assumption)), by omega, chk_lt hc9, by rw [List.length_append, List.length_singleton]; omega, by omega⟩
            · (try dsimp only); omega
    · skip
      replace h2 := ic_lss' h2
      refine VL.no rfl rfl rfl rfl rfl (by decide) ?_
      refine VL.no rfl rfl rfl rfl rfl (by decide) ?_
      refine VL.no rfl rfl rfl rfl rfl (by decide) ?_
      refine VL.no rfl rfl rfl rfl rfl (by decide) ?_
      refine VL.no rfl rfl rfl rfl rfl (by decide) ?_
      refine VL.no rfl rfl rfl rfl rfl (by decide) ?_
      refine VL.no rfl rfl rfl rfl rfl (by decide) ?_
      refine VL.r (.inl rfl) rfl (by decide) (yr_pick_f (u := .bool false) rfl rfl rfl) ?_
      refine VL.nil ?_
      refine VE.then_wp ?_
      refine V.condF rfl ?_
      refine V.exit ?_
      refine VE.then_exit ?_
      refine VE.then_exit ?_
      refine VE.block_here ?_
      refine VE.then_wp ?_
      refine V.seq ?_
      refine V.seq ?_
      refine V.region ?_
      refine VL.r (.inl rfl) rfl (by decide) (yr_move rfl rfl) ?_
      refine VL.r (.inl rfl) rfl (by decide) (yr_move rfl rfl) ?_
      refine VL.r (.inl rfl) rfl (by decide) (yr_move rfl rfl) ?_
      refine VL.q (.inl rfl) rfl (by decide) (yq_idx (k := i) rfl Tryd.underlying25 sz9_Jr rfl rfl (Sees.takeS (sx (lnB s)) ((lnB s).length - 1) (by first | exact Sees.root (by assumption) | exact Sees.own (by repeat (first | exact List.mem_cons_self | exact List.mem_append_left _ (by assumption) | apply List.mem_cons_of_mem | apply List.mem_append_right)) | exact Sees.root (hR _ (by omega)) | exact Sees.own (RowsIn.mem (by repeat (first | exact RowsIn.here | exact RowsIn.last | apply RowsIn.there | apply RowsIn.thereS)) _ (by omega)) | exact Sees.own (WRowsIn.mem (by repeat (first | exact WRowsIn.here | exact WRowsIn.last | apply WRowsIn.there | apply WRowsIn.thereS)) _ (by omega)))) rfl (take_len (by omega)) (by omega)) ?_
      refine VL.q (.inl rfl) rfl (by decide) (yq_load (u := .string ((lnB s).getD i emB)) rfl fb9_Jr rfl (by first | exact Sees.root (by assumption) | exact Sees.own (by repeat (first | exact List.mem_cons_self | exact List.mem_append_left _ (by assumption) | apply List.mem_cons_of_mem | apply List.mem_append_right)) | exact Sees.root (hR _ (by omega)) | exact Sees.own (RowsIn.mem (by repeat (first | exact RowsIn.here | exact RowsIn.last | apply RowsIn.there | apply RowsIn.thereS)) _ (by omega)) | exact Sees.own (WRowsIn.mem (by repeat (first | exact WRowsIn.here | exact WRowsIn.last | apply WRowsIn.there | apply WRowsIn.thereS)) _ (by omega))) (sx_get (by omega))) ?_
      refine VL.r (.inl rfl) rfl (by decide) (yr_lenString rfl Tryd.underlying9 rfl) ?_
      refine VL.r (.inl rfl) rfl (by decide) (yr_icmp rfl (.inl rfl) rfl rfl) ?_
      refine VL.nil ?_
      refine VE.then_wp ?_
      refine V.cond rfl (fun h7 => ?_) (fun h7 => ?_)
      · skip
        replace h7 := ic_eql h7
        refine V.exit ?_
        refine VE.then_exit ?_
        refine VE.block_on rfl ?_
        refine VE.then_exit ?_
        refine VE.then_exit ?_
        refine VE.block_here ?_
        refine VE.then_wp ?_
        refine V.seq ?_
        refine V.region ?_
        refine VL.r (.inl rfl) rfl (by decide) (yr_move rfl rfl) ?_
        refine VL.r (.inl rfl) rfl (by decide) (yr_move rfl rfl) ?_
        refine VL.r (.inl rfl) rfl (by decide) (yr_assign rfl rfl) ?_
        refine VL.r (.inl rfl) rfl (by decide) (yr_assign rfl rfl) ?_
        refine VL.nil ?_
        refine VE.then_wp ?_
        refine V.ret ?_
        refine ret2 rfl rfl rfl (by nofun) (by nofun) (fun w1 hw => ?_)
        obtain ⟨e1, e2⟩ := goI_bad hG (by omega) (sp_end hq9 (by omega))
        exact ⟨(ar, cr), by first | (rw [← e1, ← e2]; done) | (rw [← e1, ← e2]; rfl), by rw [← e1]; exact hw.out1⟩
      · skip
        replace h7 := ic_eql' h7
        have hsp : sb ((lnB s).getD i emB) q = 32 ∧ q < ((lnB s).getD i emB).size := ⟨by omega, by omega⟩
        have hT9 := txt_size ((lnB s).getD i emB)
        have hck := chk_lt (s := txt ((lnB s).getD i emB)) hc9
        refine V.skip ?_
        refine VE.then_wp ?_
        refine V.seq ?_
        refine V.region ?_
        refine VL.r (.inl rfl) rfl (by decide) (yr_move rfl rfl) ?_
        refine VL.r (.inl rfl) rfl (by decide) (yr_move rfl rfl) ?_
        refine VL.q (.inl rfl) rfl (by decide) (yq_idx (k := i) rfl Tryd.underlying25 sz9_Jr rfl rfl (Sees.takeS (sx (lnB s)) ((lnB s).length - 1) (by first | exact Sees.root (by assumption) | exact Sees.own (by repeat (first | exact List.mem_cons_self | exact List.mem_append_left _ (by assumption) | apply List.mem_cons_of_mem | apply List.mem_append_right)) | exact Sees.root (hR _ (by omega)) | exact Sees.own (RowsIn.mem (by repeat (first | exact RowsIn.here | exact RowsIn.last | apply RowsIn.there | apply RowsIn.thereS)) _ (by omega)) | exact Sees.own (WRowsIn.mem (by repeat (first | exact WRowsIn.here | exact WRowsIn.last | apply WRowsIn.there | apply WRowsIn.thereS)) _ (by omega)))) rfl (take_len (by omega)) (by omega)) ?_
        refine VL.q (.inl rfl) rfl (by decide) (yq_load (u := .string ((lnB s).getD i emB)) rfl fb9_Jr rfl (by first | exact Sees.root (by assumption) | exact Sees.own (by repeat (first | exact List.mem_cons_self | exact List.mem_append_left _ (by assumption) | apply List.mem_cons_of_mem | apply List.mem_append_right)) | exact Sees.root (hR _ (by omega)) | exact Sees.own (RowsIn.mem (by repeat (first | exact RowsIn.here | exact RowsIn.last | apply RowsIn.there | apply RowsIn.thereS)) _ (by omega)) | exact Sees.own (WRowsIn.mem (by repeat (first | exact WRowsIn.here | exact WRowsIn.last | apply WRowsIn.there | apply WRowsIn.thereS)) _ (by omega))) (sx_get (by omega))) ?_
        refine VL.r (.inl rfl) rfl (by decide) (yr_move rfl rfl) ?_
        refine VL.r (.inl rfl) rfl (by decide) (yr_addN (q + 1) rfl rfl rfl (by omega) (by omega)) ?_
        refine VL.r (.inl rfl) rfl (by decide) (YR.cast (u' := .string (txt ((lnB s).getD i emB))) (by rw [(spm hq9 hsp.2 hsp.1).2.1]) (yr_strPart (l := q + 1) (h := ((lnB s).getD i emB).size) rfl Tryd.underlying9 rfl (OptI.at rfl (by omega)) OptI.no (by omega) (by omega))) ?_
        refine VL.r (.inl rfl) rfl (by decide) (yr_assign rfl rfl) ?_
        refine VL.nil ?_
        refine VE.then_wp ?_
        refine V.seq ?_
        refine V.region ?_
        refine VL.r (.inl rfl) rfl (by decide) (yr_move rfl rfl) ?_
        refine VL.r (.inl rfl) rfl (by decide) (yr_move rfl rfl) ?_
        refine VL.q (.inl rfl) rfl (by decide) (yq_callf rfl known40_Jr (.cons rfl (.cons rfl .nil)) (fun w hw => (c_check (by omega) (by omega)))) ?_
        refine VL.r (.inl rfl) rfl (by decide) (yr_assign rfl rfl) ?_
        refine VL.nil ?_
        refine VE.then_wp ?_
        refine V.seq ?_
        refine V.seq ?_
        refine Dr.V.drawR [(0, 5), (1, 5), (2, 5), (3, 5), (4, 5), (5, 5), (6, 5), (7, 5), (8, 5)] [] [] _ mixed_Jr (by kernel_rfl) (fun w hw => hw) ?_
        refine Dr.SW.r rfl (.inl rfl) rfl (by decide) (yr_move rfl rfl) ?_
        refine Dr.SW.r rfl (.inl rfl) rfl (by decide) (yr_move rfl rfl) ?_
        refine Dr.SW.p rfl (.inl rfl) rfl (by decide) (yq_idx (k := i) rfl Tryd.underlying25 sz9_Jr rfl rfl (Sees.takeS (sx (lnB s)) ((lnB s).length - 1) (by first | exact Sees.root (by assumption) | exact Sees.own (by (try simp only [List.append_assoc, List.cons_append, List.nil_append]); repeat (first | exact List.mem_cons_self | exact List.mem_append_left _ (by assumption) | apply List.mem_cons_of_mem | apply List.mem_append_right)) | exact Sees.root (hR _ (by omega)) | exact Sees.own (RowsIn.mem (by (try simp only [List.append_assoc, List.cons_append, List.nil_append]); repeat (first | exact RowsIn.here | exact RowsIn.last | apply RowsIn.there | apply RowsIn.thereS)) _ (by omega)) | exact Sees.own (WRowsIn.mem (by (try simp only [List.append_assoc, List.cons_append, List.nil_append]); repeat (first | exact WRowsIn.here | exact WRowsIn.last | apply WRowsIn.there | apply WRowsIn.thereS)) _ (by omega)))) rfl (take_len (by omega)) (by omega)) ?_
        refine Dr.SW.p rfl (.inl rfl) rfl (by decide) (yq_load (u := .string ((lnB s).getD i emB)) rfl fb9_Jr rfl (by first | exact Sees.root (by assumption) | exact Sees.own (by (try simp only [List.append_assoc, List.cons_append, List.nil_append]); repeat (first | exact List.mem_cons_self | exact List.mem_append_left _ (by assumption) | apply List.mem_cons_of_mem | apply List.mem_append_right)) | exact Sees.root (hR _ (by omega)) | exact Sees.own (RowsIn.mem (by (try simp only [List.append_assoc, List.cons_append, List.nil_append]); repeat (first | exact RowsIn.here | exact RowsIn.last | apply RowsIn.there | apply RowsIn.thereS)) _ (by omega)) | exact Sees.own (WRowsIn.mem (by (try simp only [List.append_assoc, List.cons_append, List.nil_append]); repeat (first | exact WRowsIn.here | exact WRowsIn.last | apply WRowsIn.there | apply WRowsIn.thereS)) _ (by omega))) (sx_get (by omega))) ?_
        refine Dr.SW.r rfl (.inl rfl) rfl (by decide) (yr_move rfl rfl) ?_
        refine Dr.SW.r rfl (.inl rfl) rfl (by decide) (YR.cast (u' := .string (num ((lnB s).getD i emB))) (by rw [(spm hq9 hsp.2 hsp.1).1]) (yr_strPart (l := 0) (h := q) rfl Tryd.underlying9 rfl OptI.no (OptI.at rfl (by omega)) (by omega) (by omega))) ?_
        refine Dr.SW.r rfl (.inl rfl) rfl (by decide) (yr_move rfl rfl) ?_
        refine Dr.SW.p rfl (.inl rfl) rfl (by decide) (yq_callf rfl known41_Jr (.cons rfl .nil) (fun w hw => (c_dec (by omega)))) ?_
        refine Dr.SW.r rfl (.inl rfl) rfl (by decide) (yr_scmp rfl rfl rfl (.inr rfl)) ?_
        refine Dr.SW.done ?_
        refine Dr.eqO (by simp only [List.append_nil, List.append_assoc, List.cons_append, List.nil_append] <;> rfl) ?_
        refine VE.then_wp ?_
        refine V.cond rfl (fun h8 => ?_) (fun h8 => ?_)
        · skip
          refine V.exit ?_
          refine VE.then_exit ?_
          refine VE.block_on rfl ?_
          refine VE.then_exit ?_
          refine VE.then_exit ?_
          refine VE.block_here ?_
          refine VE.then_wp ?_
          refine V.seq ?_
          refine V.region ?_
          refine VL.r (.inl rfl) rfl (by decide) (yr_move rfl rfl) ?_
          refine VL.r (.inl rfl) rfl (by decide) (yr_move rfl rfl) ?_
          refine VL.r (.inl rfl) rfl (by decide) (yr_assign rfl rfl) ?_
          refine VL.r (.inl rfl) rfl (by decide) (yr_assign rfl rfl) ?_
          refine VL.nil ?_
          refine VE.then_wp ?_
          refine V.ret ?_
          refine ret2 rfl rfl rfl (by nofun) (by nofun) (fun w1 hw => ?_)
          exfalso; omega
        · skip
          refine V.skip ?_
          refine VE.then_wp ?_
          refine V.seq ?_
          refine V.region ?_
          refine VL.r (.inl rfl) rfl (by decide) (yr_move rfl rfl) ?_
          refine VL.r (.inl rfl) rfl (by decide) (yr_move rfl rfl) ?_
          refine VL.new1 (.inl rfl) rfl (by decide) (yn_lit rfl Tryd.underlying25 elt9_Jr rfl (by decide) (.cons rfl .nil) (by first | (simp; done) | (simp [cn, cn1, cn0]; done)) rfl rfl rfl) ?_
          intro b70
          refine VL.c (.inl rfl) rfl (by decide) (yc_appendz 1 rfl rfl Tryd.underlying25 elt9_Jr rfl rfl (by repeat (first | exact UpdF.here | apply UpdF.there | apply UpdF.thereS)) (by first | exact Sees.root (by assumption) | exact Sees.own (by repeat (first | exact List.mem_cons_self | exact List.mem_append_left _ (by assumption) | apply List.mem_cons_of_mem | apply List.mem_append_right)) | exact Sees.root (hR _ (by omega)) | exact Sees.own (RowsIn.mem (by repeat (first | exact RowsIn.here | exact RowsIn.last | apply RowsIn.there | apply RowsIn.thereS)) _ (by omega)) | exact Sees.own (WRowsIn.mem (by repeat (first | exact WRowsIn.here | exact WRowsIn.last | apply WRowsIn.there | apply WRowsIn.thereS)) _ (by omega))) rfl (by rw [sx_length, Nat.mul_one]) rfl (by first | rfl | exact sx_scal _) rfl (by omega) (by omega)) ?_
          rintro ⟨a71, c71⟩
          refine VL.r (.inl rfl) rfl (by decide) (yr_assign rfl rfl) ?_
          refine VL.nil ?_
          refine VE.then_wp ?_
          refine V.region ?_
          refine VL.r (.inl rfl) rfl (by decide) (yr_move rfl rfl) ?_
          refine VL.r (.inl rfl) rfl (by decide) (yr_move rfl rfl) ?_
          refine VL.r (.inl rfl) rfl (by decide) (yr_move rfl rfl) ?_
          refine VL.q (.inl rfl) rfl (by decide) (yq_idx (k := i) rfl Tryd.underlying25 sz9_Jr rfl rfl (Sees.takeS (sx (lnB s)) ((lnB s).length - 1) (by first | exact Sees.root (by assumption) | exact Sees.own (by repeat (first | exact List.mem_cons_self | exact List.mem_append_left _ (by assumption) | apply List.mem_cons_of_mem | apply List.mem_append_right)) | exact Sees.root (hR _ (by omega)) | exact Sees.own (RowsIn.mem (by repeat (first | exact RowsIn.here | exact RowsIn.last | apply RowsIn.there | apply RowsIn.thereS)) _ (by omega)) | exact Sees.own (WRowsIn.mem (by repeat (first | exact WRowsIn.here | exact WRowsIn.last | apply WRowsIn.there | apply WRowsIn.thereS)) _ (by omega)))) rfl (take_len (by omega)) (by omega)) ?_
          refine VL.q (.inl rfl) rfl (by decide) (yq_load (u := .string ((lnB s).getD i emB)) rfl fb9_Jr rfl (by first | exact Sees.root (by assumption) | exact Sees.own (by repeat (first | exact List.mem_cons_self | exact List.mem_append_left _ (by assumption) | apply List.mem_cons_of_mem | apply List.mem_append_right)) | exact Sees.root (hR _ (by omega)) | exact Sees.own (RowsIn.mem (by repeat (first | exact RowsIn.here | exact RowsIn.last | apply RowsIn.there | apply RowsIn.thereS)) _ (by omega)) | exact Sees.own (WRowsIn.mem (by repeat (first | exact WRowsIn.here | exact WRowsIn.last | apply WRowsIn.there | apply WRowsIn.thereS)) _ (by omega))) (sx_get (by omega))) ?_
          refine VL.r (.inl rfl) rfl (by decide) (yr_lenString rfl Tryd.underlying9 rfl) ?_
          refine VL.r (.inl rfl) rfl (by decide) (yr_addN (((lnB s).getD i emB).size + 1) rfl rfl rfl (by omega) (by omega)) ?_
          refine VL.r (.inl rfl) rfl (by decide) (yr_addN (n + ((lnB s).getD i emB).size + 1) rfl rfl rfl (by omega) (by omega)) ?_
          refine VL.r (.inl rfl) rfl (by decide) (yr_assign rfl rfl) ?_
          refine VL.nil ?_
          refine VE.block_normal ?_
          refine VE.then_wp ?_
          refine V.region ?_
          refine VL.r (.inl rfl) rfl (by decide) (yr_move rfl rfl) ?_
          refine VL.r (.inl rfl) rfl (by decide) (yr_int rfl rfl rfl (.inl ⟨rfl, wrap_in (by omega)⟩)) ?_
          refine VL.r (.inl rfl) rfl (by decide) (yr_assign rfl rfl) ?_
          refine VL.nil ?_
          refine VE.round (i + 1, chk c (txt ((lnB s).getD i emB)), out ++ [txt ((lnB s).getD i emB)], n + ((lnB s).getD i emB).size + 1, a71, c71) ?_ ?_ ?_ ?_ ?_
          · exact (.cons (congrArg (fun n => some (Value.slice _ n _)) (by first | rfl | (rw [List.length_append]; rfl))) (.cons rfl (.cons rfl (.cons rfl .nil))))
          · exact (.cons rfl .nil)
          · exact (fun w hw => by dsimp only; rw [← sx_snoc]; exact hw.pick (by apply Pick.two; all_goals (repeat (first | exact Rem.here | apply Rem.there))))
          · exact ⟨goI_step hG (by omega) (good_y (spm hq9 hsp.2 hsp.1).2.2 (by assumption)), by omega, chk_lt hc9, by rw [List.length_append, List.length_singleton]; omega, by omega⟩
          · (try dsimp only); omega
  · skip
    replace h1 := ic_lss' h1
    refine V.exit ?_
    refine VE.then_exit ?_
    refine VE.then_exit ?_
    refine VE.block_here ?_
    refine VE.then_wp ?_
    refine V.seq ?_
    refine V.region ?_
    refine VL.r (.inl rfl) rfl (by decide) (yr_move rfl rfl) ?_
    refine VL.r (.inl rfl) rfl (by decide) (yr_move rfl rfl) ?_
    refine VL.r (.inl rfl) rfl (by decide) (yr_assign rfl rfl) ?_
    refine VL.r (.inl rfl) rfl (by decide) (yr_assign rfl rfl) ?_
    refine VL.nil ?_
    refine VE.then_wp ?_
    refine V.ret ?_
    refine ret2 rfl rfl rfl (by nofun) (by nofun) (fun w1 hw => ?_)
    obtain ⟨e1, e2⟩ := goI_end hG (by omega)
    exact ⟨(ar, cr), by first | (rw [← e1, ← e2]; done) | (rw [← e1, ← e2]; rfl), by rw [← e1]; exact hw.out1⟩

theorem c_specRj {w : World} {s : ByteArray} : New Tryd.prog 14 [.string s] w (fun p : Option Addr × Nat => .tuple #[.slice p.1 (rO s).length p.2, .int .i64 ((rN s : Nat) : Int), .bool (rB s)]) (fun p => [⟨p.1, sx (rO s), p.2 * 1, 9⟩]) := by
  refine New.enter Tryd.func14 rfl Tryd.ntmps14 (Nat.le_of_ble_eq_true rfl) ?_
  refine V.seq ?_
  refine V.region ?_
  refine VL.r (.inl rfl) rfl (by decide) (yr_assign (u := .slice none 0 0) rfl rfl) ?_
  refine VL.r (.inl rfl) rfl (by decide) (yr_assign (u := .int .i64 0) rfl rfl) ?_
  refine VL.r (.inl rfl) rfl (by decide) (yr_assign (u := .bool false) rfl rfl) ?_
  refine VL.nil ?_
  refine VE.then_wp ?_
  refine V.seq ?_
  refine V.seq ?_
  refine V.region ?_
  refine VL.r (.inl rfl) rfl (by decide) (yr_move rfl rfl) ?_
  refine VL.r (.inl rfl) rfl (by decide) (yr_lenString rfl Tryd.underlying9 rfl) ?_
  refine VL.r (.inl rfl) rfl (by decide) (yr_icmp rfl (.inr (.inr (.inr (.inr (.inl rfl))))) rfl rfl) ?_
  refine VL.nil ?_
  refine VE.then_wp ?_
  refine V.cond rfl (fun h1 => ?_) (fun h1 => ?_)
  · skip
    replace h1 := ic_gtr h1
    refine V.seq ?_
    refine V.region ?_
    refine VL.r (.inl rfl) rfl (by decide) (yr_assign (u := .slice none 0 0) rfl rfl) ?_
    refine VL.r (.inl rfl) rfl (by decide) (yr_assign (u := .int .i64 0) rfl rfl) ?_
    refine VL.r (.inl rfl) rfl (by decide) (yr_assign (u := .bool false) rfl rfl) ?_
    refine VL.nil ?_
    refine VE.then_wp ?_
    refine V.ret ?_
    refine VE.then_ret ?_
    refine ret3 rfl rfl rfl rfl (by nofun) (by nofun) (by nofun) (fun w1 hw => ?_)
    obtain ⟨e1, e2, e3⟩ := r_no (s := s) (by omega)
    exact ⟨(none, 0), by first | (rw [e1, e2, e3]; done) | (rw [e1, e2, e3]; rfl), by rw [e1]; exact (hw.nilJ 9).out1⟩
  · skip
    replace h1 := ic_gtr' h1
    refine V.skip ?_
    refine VE.then_wp ?_
    refine V.seq ?_
    refine V.region ?_
    refine VL.r (.inl rfl) rfl (by decide) (yr_move rfl rfl) ?_
    refine VL.new1 (.inl rfl) rfl (by decide) (yn_callf rfl known31_Jr (.cons rfl .nil) (fun w hw => (c_l08Rec (by omega)))) ?_
    rintro ⟨a12, c12⟩
    refine VL.r (.inl rfl) rfl (by decide) (yr_move rfl rfl) ?_
    refine VL.r (.inl rfl) rfl (by decide) (yr_extract rfl rfl rfl (by nofun)) ?_
    refine VL.r (.inl rfl) rfl (by decide) (yr_extract rfl rfl rfl (by nofun)) ?_
    refine VL.r (.inl rfl) rfl (by decide) (yr_assign rfl rfl) ?_
    refine VL.r (.inl rfl) rfl (by decide) (yr_assign rfl rfl) ?_
    refine VL.nil ?_
    refine VE.then_wp ?_
    refine V.seq ?_
    refine V.region ?_
    refine VL.r (.inl rfl) rfl (by decide) (yr_move rfl rfl) ?_
    refine VL.r (.inl rfl) rfl (by decide) (yr_move rfl rfl) ?_
    refine VL.r (.inl rfl) rfl (by decide) (yr_assign rfl rfl) ?_
    refine VL.r (.inl rfl) rfl (by decide) (yr_assign rfl rfl) ?_
    refine VL.r (.inl rfl) rfl (by decide) (yr_assign (u := .bool true) rfl rfl) ?_
    refine VL.nil ?_
    refine VE.then_wp ?_
    refine V.ret ?_
    refine ret3 rfl rfl rfl rfl (by nofun) (by nofun) (by nofun) (fun w1 hw => ?_)
    obtain ⟨e1, e2, e3⟩ := r_yes (s := s) (by omega)
    exact ⟨(a12, c12), by first | (rw [e1, e2, e3]; done) | (rw [e1, e2, e3]; rfl), by rw [e1]; exact hw.out1⟩

theorem law_Rj {w : World} {s : ByteArray} {m : Int} (hM : Cl w (some ⟨0, 0, none⟩) [.int .i64 m]) (hT : Go.Lib.TabIs Tryd.prog w "internal/strconv.uint64pow10" .u64 Go.Lib.pow10Tab) : Pure Tryd.prog 5 [.string s] w (.bool true) := by
  refine Pure.enter Tryd.func5 rfl Tryd.ntmps5 (Nat.le_of_ble_eq_true rfl) ?_
  have hrl := rO_len s
  refine V.seq ?_
  refine V.region ?_
  refine VL.r (.inl rfl) rfl (by decide) (yr_assign (u := .bool false) rfl rfl) ?_
  refine VL.nil ?_
  refine VE.then_wp ?_
  refine V.seq ?_
  refine V.seq ?_
  refine V.region ?_
  refine VL.r (.inl rfl) rfl (by decide) (yr_move rfl rfl) ?_
  refine VL.r (.inl rfl) rfl (by decide) (yr_lenString rfl Tryd.underlying9 rfl) ?_
  refine VL.r (.inl rfl) rfl (by decide) (yr_icmp rfl (.inr (.inr (.inr (.inr (.inl rfl))))) rfl rfl) ?_
  refine VL.nil ?_
  refine VE.then_wp ?_
  refine V.cond rfl (fun h1 => ?_) (fun h1 => ?_)
  · skip
    replace h1 := ic_gtr h1
    refine V.seq ?_
    refine V.region ?_
    refine VL.r (.inl rfl) rfl (by decide) (yr_assign (u := .bool true) rfl rfl) ?_
    refine VL.nil ?_
    refine VE.then_wp ?_
    refine V.ret ?_
    refine VE.then_ret ?_
    refine ret1 rfl rfl (fun w1 hw => ?_)
    exact ⟨rfl, hw.below⟩
  · skip
    replace h1 := ic_gtr' h1
    refine V.skip ?_
    refine VE.then_wp ?_
    refine V.seq ?_
    refine V.region ?_
    refine VL.r (.inl rfl) rfl (by decide) (yr_move rfl rfl) ?_
    refine VL.new1 (.inl rfl) rfl (by decide) (yn_callf rfl known14_Jr (.cons rfl .nil) (fun w hw => c_specRj)) ?_
    rintro ⟨a19, c19⟩
    refine VL.r (.inl rfl) rfl (by decide) (yr_move rfl rfl) ?_
    refine VL.r (.inl rfl) rfl (by decide) (yr_extract rfl rfl rfl (by nofun)) ?_
    refine VL.r (.inl rfl) rfl (by decide) (yr_extract rfl rfl rfl (by nofun)) ?_
    refine VL.r (.inl rfl) rfl (by decide) (yr_extract rfl rfl rfl (by nofun)) ?_
    refine VL.r (.inl rfl) rfl (by decide) (yr_assign rfl rfl) ?_
    refine VL.r (.inl rfl) rfl (by decide) (yr_assign rfl rfl) ?_
    refine VL.r (.inl rfl) rfl (by decide) (yr_assign rfl rfl) ?_
    refine VL.nil ?_
    refine VE.then_wp ?_
    refine V.seq ?_
    refine V.region ?_
    refine VL.r (.inl rfl) rfl (by decide) (yr_move rfl rfl) ?_
    refine VL.new1 (.inl rfl) rfl (by decide) (yn_callf rfl known15_Jr (.cons rfl .nil) (fun w hw => (c_implRj (by first | exact Sees.root (by assumption) w hw | exact Sees.own (by repeat (first | exact List.mem_cons_self | exact List.mem_append_left _ (by assumption) | apply List.mem_cons_of_mem | apply List.mem_append_right)) w hw) (tab_keep hT hw.below)))) ?_
    rintro ⟨a25, c25⟩
    refine VL.r (.inl rfl) rfl (by decide) (yr_move rfl rfl) ?_
    refine VL.r (.inl rfl) rfl (by decide) (yr_extract rfl rfl rfl (by nofun)) ?_
    refine VL.r (.inl rfl) rfl (by decide) (yr_extract rfl rfl rfl (by nofun)) ?_
    refine VL.r (.inl rfl) rfl (by decide) (yr_extract rfl rfl rfl (by nofun)) ?_
    refine VL.r (.inl rfl) rfl (by decide) (yr_assign rfl rfl) ?_
    refine VL.r (.inl rfl) rfl (by decide) (yr_assign rfl rfl) ?_
    refine VL.r (.inl rfl) rfl (by decide) (yr_assign rfl rfl) ?_
    refine VL.nil ?_
    refine VE.then_wp ?_
    refine V.seq ?_
    refine V.seq ?_
    refine V.region ?_
    refine VL.r (.inl rfl) rfl (by decide) (yr_move rfl rfl) ?_
    refine VL.r (.inl rfl) rfl (by decide) (yr_move rfl rfl) ?_
    refine VL.q (.inl rfl) rfl (by decide) (yq_callf rfl known13_Jr (.cons rfl (.cons rfl .nil)) (fun w hw => (c_eqStr (by first | exact Sees.root (by assumption) w hw | exact Sees.own (by repeat (first | exact List.mem_cons_self | exact List.mem_append_left _ (by assumption) | apply List.mem_cons_of_mem | apply List.mem_append_right)) w hw) (by first | exact Sees.root (by assumption) w hw | exact Sees.own (by repeat (first | exact List.mem_cons_self | exact List.mem_append_left _ (by assumption) | apply List.mem_cons_of_mem | apply List.mem_append_right)) w hw) (by omega)))) ?_
    refine VL.r (.inl rfl) rfl (by decide) (yr_not rfl rfl) ?_
    refine VL.r (.inl rfl) rfl (by decide) (yr_move rfl rfl) ?_
    refine VX.split 33 _ rfl (fun h2 => ?_) (fun h2 => ?_)
    · skip
      replace h2 := bnot_t h2
      first | (exfalso; omega) | (simp [bcmp] at h2; done)
    · skip
      replace h2 := bnot_f h2
      refine VL.r (.inr ⟨_, _, _, rfl, rfl, rfl⟩) rfl (by decide) (yr_move rfl rfl) ?_
      refine VL.r (.inr ⟨_, _, _, rfl, rfl, rfl⟩) rfl (by decide) (yr_move rfl rfl) ?_
      refine VL.r (.inr ⟨_, _, _, rfl, rfl, rfl⟩) rfl (by decide) (yr_icmp rfl (.inr (.inl rfl)) rfl rfl) ?_
      refine VL.r (.inl rfl) rfl (by decide) (yr_pick_f rfl rfl rfl) ?_
      refine VL.r (.inl rfl) rfl (by decide) (yr_move rfl rfl) ?_
      refine VX.split 38 _ rfl (fun h3 => ?_) (fun h3 => ?_)
      · skip
        replace h3 := ic_neq h3
        first | (exfalso; omega) | (simp [bcmp] at h3; done)
      · skip
        replace h3 := ic_neq' h3
        refine VL.r (.inr ⟨_, _, _, rfl, rfl, rfl⟩) rfl (by decide) (yr_move rfl rfl) ?_
        refine VL.r (.inr ⟨_, _, _, rfl, rfl, rfl⟩) rfl (by decide) (yr_move rfl rfl) ?_
        refine VL.r (.inr ⟨_, _, _, rfl, rfl, rfl⟩) rfl (by decide) (yr_bcmp rfl Tryd.underlying4 rfl rfl (.inr rfl)) ?_
        refine VL.r (.inl rfl) rfl (by decide) (yr_pick_f rfl rfl rfl) ?_
        refine VL.nil ?_
        refine VE.then_wp ?_
        refine V.cond rfl (fun h4 => ?_) (fun h4 => ?_)
        · skip
          first | (exfalso; omega) | (simp [bcmp] at h4; done)
        · skip
          refine V.skip ?_
          refine VE.then_wp ?_
          refine V.seq ?_
          refine V.region ?_
          refine VL.r (.inl rfl) rfl (by decide) (yr_assign (u := .int .i64 1) rfl rfl) ?_
          refine VL.nil ?_
          refine VE.then_wp ?_
          refine V.seq ?_
          refine V.region ?_
          refine VL.r (.inl rfl) rfl (by decide) (yr_move rfl rfl) ?_
          refine VL.r (.inl rfl) rfl (by decide) (yr_move rfl rfl) ?_
          refine VL.c (.inl rfl) rfl (by decide) (yc_callf rfl known16_Jr (.cons rfl (.cons rfl .nil)) (by apply Pick.one; repeat (first | exact Rem.here | apply Rem.there | apply Rem.thereS)) (c_markStr (k0 := 1) (by decide) (by omega))) ?_
          rintro ⟨⟩
          refine VL.r (.inl rfl) rfl (by decide) (yr_assign rfl rfl) ?_
          refine VL.nil ?_
          refine VE.then_wp ?_
          refine V.seq ?_
          refine V.region ?_
          refine VL.r (.inl rfl) rfl (by decide) (yr_assign (u := .int .i64 1) rfl rfl) ?_
          refine VL.nil ?_
          refine VE.then_wp ?_
          refine V.seq ?_
          refine V.region ?_
          refine VL.r (.inl rfl) rfl (by decide) (yr_move rfl rfl) ?_
          refine VL.r (.inl rfl) rfl (by decide) (yr_move rfl rfl) ?_
          refine VL.q (.inl rfl) rfl (by decide) (yq_callf rfl known17_Jr (.cons rfl (.cons rfl .nil)) (fun w hw => (c_heldStr (k0 := 1) (by first | exact Sees.root (by assumption) w hw | exact Sees.own (by repeat (first | exact List.mem_cons_self | exact List.mem_append_left _ (by assumption) | apply List.mem_cons_of_mem | apply List.mem_append_right)) w hw) (by decide) (by omega)))) ?_
          refine VL.r (.inl rfl) rfl (by decide) (yr_assign rfl rfl) ?_
          refine VL.nil ?_
          refine VE.then_wp ?_
          refine V.seq ?_
          refine V.seq ?_
          refine V.region ?_
          refine VL.r (.inl rfl) rfl (by decide) (yr_move rfl rfl) ?_
          refine VL.r (.inl rfl) rfl (by decide) (yr_icmp rfl (.inr (.inr (.inl rfl))) rfl rfl) ?_
          refine VL.nil ?_
          refine VE.then_wp ?_
          refine V.cond rfl (fun h5 => ?_) (fun h5 => ?_)
          · skip
            replace h5 := ic_lss h5
            first | (exfalso; omega) | (simp [bcmp] at h5; done)
          · skip
            replace h5 := ic_lss' h5
            refine V.skip ?_
            refine VE.then_wp ?_
            refine V.seq ?_
            refine V.seq ?_
            refine V.region ?_
            refine VL.r (.inl rfl) rfl (by decide) (yr_move rfl rfl) ?_
            refine VL.r (.inl rfl) rfl (by decide) (yr_move rfl rfl) ?_
            refine VL.r (.inl rfl) rfl (by decide) (yr_icmp rfl (.inr (.inl rfl)) rfl rfl) ?_
            refine VL.nil ?_
            refine VE.then_wp ?_
            refine V.cond rfl (fun h6 => ?_) (fun h6 => ?_)
            · skip
              replace h6 := ic_neq h6
              first | (exfalso; omega) | (simp [bcmp] at h6; done)
            · skip
              replace h6 := ic_neq' h6
              refine V.skip ?_
              refine VE.then_wp ?_
              refine V.seq ?_
              refine V.region ?_
              refine VL.r (.inl rfl) rfl (by decide) (yr_move rfl rfl) ?_
              refine VL.new1 (.inl rfl) rfl (by decide) (yn_callf rfl known15_Jr (.cons rfl .nil) (fun w hw => (c_implRj (by first | exact Sees.root (by assumption) w hw | exact Sees.own (by repeat (first | exact List.mem_cons_self | exact List.mem_append_left _ (by assumption) | apply List.mem_cons_of_mem | apply List.mem_append_right)) w hw) (tab_keep hT hw.below)))) ?_
              rintro ⟨a56, c56⟩
              refine VL.r (.inl rfl) rfl (by decide) (yr_move rfl rfl) ?_
              refine VL.r (.inl rfl) rfl (by decide) (yr_extract rfl rfl rfl (by nofun)) ?_
              refine VL.r (.inl rfl) rfl (by decide) (yr_extract rfl rfl rfl (by nofun)) ?_
              refine VL.r (.inl rfl) rfl (by decide) (yr_extract rfl rfl rfl (by nofun)) ?_
              refine VL.r (.inl rfl) rfl (by decide) (yr_assign rfl rfl) ?_
              refine VL.r (.inl rfl) rfl (by decide) (yr_assign rfl rfl) ?_
              refine VL.r (.inl rfl) rfl (by decide) (yr_assign rfl rfl) ?_
              refine VL.nil ?_
              refine VE.then_wp ?_
              refine V.seq ?_
              refine V.seq ?_
              refine V.region ?_
              refine VL.r (.inl rfl) rfl (by decide) (yr_move rfl rfl) ?_
              refine VL.r (.inl rfl) rfl (by decide) (yr_move rfl rfl) ?_
              refine VL.q (.inl rfl) rfl (by decide) (yq_callf rfl known13_Jr (.cons rfl (.cons rfl .nil)) (fun w hw => (c_eqStr (by first | exact Sees.root (by assumption) w hw | exact Sees.own (by repeat (first | exact List.mem_cons_self | exact List.mem_append_left _ (by assumption) | apply List.mem_cons_of_mem | apply List.mem_append_right)) w hw) (by first | exact Sees.root (by assumption) w hw | exact Sees.own (by repeat (first | exact List.mem_cons_self | exact List.mem_append_left _ (by assumption) | apply List.mem_cons_of_mem | apply List.mem_append_right)) w hw) (by omega)))) ?_
              refine VL.r (.inl rfl) rfl (by decide) (yr_not rfl rfl) ?_
              refine VL.r (.inl rfl) rfl (by decide) (yr_move rfl rfl) ?_
              refine VX.split 64 _ rfl (fun h7 => ?_) (fun h7 => ?_)
              · skip
                replace h7 := bnot_t h7
                first | (exfalso; omega) | (simp [bcmp] at h7; done)
              · skip
                replace h7 := bnot_f h7
                refine VL.r (.inr ⟨_, _, _, rfl, rfl, rfl⟩) rfl (by decide) (yr_move rfl rfl) ?_
                refine VL.r (.inr ⟨_, _, _, rfl, rfl, rfl⟩) rfl (by decide) (yr_move rfl rfl) ?_
                refine VL.r (.inr ⟨_, _, _, rfl, rfl, rfl⟩) rfl (by decide) (yr_icmp rfl (.inr (.inl rfl)) rfl rfl) ?_
                refine VL.r (.inl rfl) rfl (by decide) (yr_pick_f rfl rfl rfl) ?_
                refine VL.r (.inl rfl) rfl (by decide) (yr_move rfl rfl) ?_
                refine VX.split 69 _ rfl (fun h8 => ?_) (fun h8 => ?_)
                · skip
                  replace h8 := ic_neq h8
                  first | (exfalso; omega) | (simp [bcmp] at h8; done)
                · skip
                  replace h8 := ic_neq' h8
                  refine VL.r (.inr ⟨_, _, _, rfl, rfl, rfl⟩) rfl (by decide) (yr_move rfl rfl) ?_
                  refine VL.r (.inr ⟨_, _, _, rfl, rfl, rfl⟩) rfl (by decide) (yr_move rfl rfl) ?_
                  refine VL.r (.inr ⟨_, _, _, rfl, rfl, rfl⟩) rfl (by decide) (yr_bcmp rfl Tryd.underlying4 rfl rfl (.inr rfl)) ?_
                  refine VL.r (.inl rfl) rfl (by decide) (yr_pick_f rfl rfl rfl) ?_
                  refine VL.nil ?_
                  refine VE.then_wp ?_
                  refine V.cond rfl (fun h9 => ?_) (fun h9 => ?_)
                  · skip
                    first | (exfalso; omega) | (simp [bcmp] at h9; done)
                  · skip
                    refine V.skip ?_
                    refine VE.then_wp ?_
                    refine V.seq ?_
                    refine V.region ?_
                    refine VL.r (.inl rfl) rfl (by decide) (yr_assign (u := .int .i64 1) rfl rfl) ?_
                    refine VL.nil ?_
                    refine VE.then_wp ?_
                    refine V.seq ?_
                    refine V.region ?_
                    refine VL.r (.inl rfl) rfl (by decide) (yr_move rfl rfl) ?_
                    refine VL.r (.inl rfl) rfl (by decide) (yr_move rfl rfl) ?_
                    refine VL.q (.inl rfl) rfl (by decide) (yq_callf rfl known17_Jr (.cons rfl (.cons rfl .nil)) (fun w hw => (c_heldStr (k0 := 1) (by first | exact Sees.root (by assumption) w hw | exact Sees.own (by repeat (first | exact List.mem_cons_self | exact List.mem_append_left _ (by assumption) | apply List.mem_cons_of_mem | apply List.mem_append_right)) w hw) (by decide) (by omega)))) ?_
                    refine VL.r (.inl rfl) rfl (by decide) (yr_assign rfl rfl) ?_
                    refine VL.nil ?_
                    refine VE.then_wp ?_
                    refine V.seq ?_
                    refine V.seq ?_
                    refine V.region ?_
                    refine VL.r (.inl rfl) rfl (by decide) (yr_move rfl rfl) ?_
                    refine VL.r (.inl rfl) rfl (by decide) (yr_icmp rfl (.inr (.inr (.inl rfl))) rfl rfl) ?_
                    refine VL.nil ?_
                    refine VE.then_wp ?_
                    refine V.cond rfl (fun h10 => ?_) (fun h10 => ?_)
                    · skip
                      replace h10 := ic_lss h10
                      first | (exfalso; omega) | (simp [bcmp] at h10; done)
                    · skip
                      replace h10 := ic_lss' h10
                      refine V.skip ?_
                      refine VE.then_wp ?_
                      refine V.seq ?_
                      refine V.seq ?_
                      refine V.region ?_
                      refine VL.r (.inl rfl) rfl (by decide) (yr_move rfl rfl) ?_
                      refine VL.r (.inl rfl) rfl (by decide) (yr_move rfl rfl) ?_
                      refine VL.r (.inl rfl) rfl (by decide) (yr_icmp rfl (.inr (.inl rfl)) rfl rfl) ?_
                      refine VL.nil ?_
                      refine VE.then_wp ?_
                      refine V.cond rfl (fun h11 => ?_) (fun h11 => ?_)
                      · skip
                        replace h11 := ic_neq h11
                        first | (exfalso; omega) | (simp [bcmp] at h11; done)
                      · skip
                        replace h11 := ic_neq' h11
                        refine V.skip ?_
                        refine VE.then_wp ?_
                        refine V.seq ?_
                        refine V.region ?_
                        refine VL.r (.inl rfl) rfl (by decide) (yr_assign (u := .bool true) rfl rfl) ?_
                        refine VL.nil ?_
                        refine VE.then_wp ?_
                        refine V.ret ?_
                        refine ret1 rfl rfl (fun w1 hw => ?_)
                        exact ⟨rfl, hw.below⟩

end Go.Proofs.YtmecikeaogjmpaaDoor

