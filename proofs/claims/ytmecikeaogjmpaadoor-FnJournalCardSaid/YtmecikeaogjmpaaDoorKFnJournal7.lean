/- Own texts of this claim, merged: WLj, OpenB. -/
import Derived.KernelRfl
import Derived.Test.YtmecikeaogjmpaaDoorKFnJournal6
namespace Go.Proofs.YtmecikeaogjmpaaDoor
open Go.RowKit
set_option linter.unusedVariables false
set_option linter.unusedSimpArgs false
set_option maxRecDepth 20000

theorem known18_Lj : Known Tryd.prog 18 := Known.mk' Tryd.func18 (by kernel_rfl)
theorem known20_Lj : Known Tryd.prog 20 := Known.mk' Tryd.func20 (by kernel_rfl)
theorem known19_Lj : Known Tryd.prog 19 := Known.mk' Tryd.func19 (by kernel_rfl)
theorem known12_Lj : Known Tryd.prog 12 := Known.mk' Tryd.func12 (by kernel_rfl)
theorem known21_Lj : Known Tryd.prog 21 := Known.mk' Tryd.func21 (by kernel_rfl)
theorem known15_Lj : Known Tryd.prog 15 := Known.mk' Tryd.func15 (by kernel_rfl)
theorem mixed_Lj : Tryd.prog.follows .mixedOrders = true := by kernel_rfl
theorem sz9_Lj : (Tryd.prog.info? 9).map (·.size) = some 1 := by kernel_rfl
theorem fb9_Lj : flatB Tryd.prog 9 = true := by kernel_rfl
theorem elt5_Lj : Elt Tryd.prog 5 [Value.int .u8 0] 1 := Elt.mk' (by kernel_rfl) (by decide)
attribute [local irreducible] mt dN chkK chk numT txt fnd good go recO recN rO rN rB scmp List.getD stb dec szS hasNL jR jOk tot jT jC sumS noNL bent cN

theorem rO_sizes (s : ByteArray) : ∀ i, i < (rO s).length → ((rO s).getD i emB).size ≤ 1048576 := by
  intro i hi
  by_cases h : s.size ≤ 12000
  · rw [(r_yes h).1] at hi ⊢
    obtain ⟨h1, h2, -⟩ := rec_ok s
    have h3 := tot_at (ss := recO s) hi
    have h4 := tot_le (recO s) (recO s).length
    have h5 : (jT (recO s) (recO s).length).size ≤ 12000 := by rw [h1, extract_size h2]; omega
    omega
  · rw [(r_no h).1] at hi
    exact absurd hi (Nat.not_lt_zero _)
theorem take_at {ss : List ByteArray} {n k : Nat} (h : k < n) : (ss.take n).getD k emB = ss.getD k emB := by simp [List.getD, h]
theorem bent_eq (T : ByteArray) (k : Nat) (b : Int) : T.extract 0 k ++ stb [b] ++ T.extract (k + 1) T.size = bent T k b := by unfold bent; rfl
section
variable {P : Program} {w0 : World} {O : List Ent} {E : Env} {o : Oper}
theorem yn_remL {t ty : TypeId} {x y : Operand} {p q : Int} (a b : Nat) (ho : o.op = .binOp .rem t x y ty) (hx : E.opd x = some (.int .i64 p)) (hy : E.opd y = some (.int .i64 q)) (hp : p = (a : Int)) (hq : q = (b : Int)) (hb : 0 < b) :
    YN P w0 O E o (fun x : {x : Nat // x < b} => .int .i64 ((x.1 : Nat) : Int)) (fun _ => []) := fun ρ w hE _ =>
  (yr_remN a b ho hx hy hp hq hb ρ w hE).mono fun v w' ⟨h1, h2⟩ => ⟨⟨a % b, Nat.mod_lt _ hb⟩, h1, h2, (fun _ hf => by cases hf), List.Pairwise.nil⟩
end
theorem law_Jn {w : World} {a b : Option Addr} {c d : Nat} {bs cs : List Int} {m : Int} (hA : Cl w a (bl bs)) (hB : Cl w b (bl cs)) (hb : Bytes bs) (hcb : Bytes cs) (hM : Cl w (some ⟨0, 0, none⟩) [.int .i64 m]) (hT : Go.Lib.TabIs Tryd.prog w "internal/strconv.uint64pow10" .u64 Go.Lib.pow10Tab) : Pure Tryd.prog 6 [.slice a bs.length c, .slice b cs.length d] w (.bool true) := by
  refine Pure.enter Tryd.func6 rfl Tryd.ntmps6 (Nat.le_of_ble_eq_true rfl) ?_
  refine V.seq ?_
  refine V.region ?_
  refine VL.r (.inl rfl) rfl (by decide) (yr_assign (u := .bool false) rfl rfl) ?_
  refine VL.nil ?_
  refine VE.then_wp ?_
  refine V.seq ?_
  refine V.seq ?_
  refine V.region ?_
  refine VL.r (.inl rfl) rfl (by decide) (yr_move rfl rfl) ?_
  refine VL.r (.inl rfl) rfl (by decide) (yr_move rfl rfl) ?_
  refine VL.q (.inl rfl) rfl (by decide) (yq_callf rfl known18_Lj (.cons rfl (.cons rfl .nil)) (fun w hw => c_b10Long)) ?_
  refine VL.nil ?_
  refine VE.then_wp ?_
  refine V.cond rfl (fun h1 => ?_) (fun h1 => ?_)
  · skip
    refine V.seq ?_
    refine V.region ?_
    refine VL.r (.inl rfl) rfl (by decide) (yr_assign (u := .bool true) rfl rfl) ?_
    refine VL.nil ?_
    refine VE.then_wp ?_
    refine V.ret ?_
    refine VE.then_ret ?_
    refine ret1 rfl rfl (fun w1 hw => ?_)
    exact ⟨rfl, hw.below⟩
  · skip
    rw [Bool.or_eq_false_iff, decide_eq_false_iff_not, decide_eq_false_iff_not] at h1
    have hl1 := h1.1
    have hl2 := h1.2
    refine V.skip ?_
    refine VE.then_wp ?_
    refine V.seq ?_
    refine V.region ?_
    refine VL.r (.inl rfl) rfl (by decide) (yr_move rfl rfl) ?_
    refine VL.r (.inl rfl) rfl (by decide) (yr_move rfl rfl) ?_
    refine VL.new (.inl rfl) rfl (by decide) (yn_callf rfl known20_Lj (.cons rfl .nil) (fun w hw => (c_b10Desk (by first | exact Sees.root (by assumption) w hw | exact Sees.own (by repeat (first | exact List.mem_cons_self | exact List.mem_append_left _ (by assumption) | apply List.mem_cons_of_mem | apply List.mem_append_right)) w hw) hcb (by omega)))) ?_
    rintro ⟨⟨⟨a28, l28, c28⟩, ⟨d28, e28, f28⟩, ⟨g28, h28, i28⟩, ⟨j28, k28, o28⟩, p28, q28, r28⟩, hnw28⟩
    dsimp only at hnw28
    refine VL.new (.inl rfl) rfl (by decide) (yn_callf rfl known19_Lj (.cons rfl (.cons rfl .nil)) (fun w hw => (c_b10Lines (by first | exact Sees.root (by assumption) w hw | exact Sees.own (by repeat (first | exact List.mem_cons_self | exact List.mem_append_left _ (by assumption) | apply List.mem_cons_of_mem | apply List.mem_append_right)) w hw) hb (by omega) hnw28))) ?_
    rintro ⟨⟨⟨a29, c29⟩, ss29⟩, hl29, ht29⟩
    dsimp only at hl29 ht29
    have hjn := jn_of hl29 ht29
    have hTz : (jR ss29).size ≤ 12000 := by rw [hjn.ok.2]; exact hjn.le
    refine VL.r (.inl rfl) rfl (by decide) (yr_assign rfl rfl) ?_
    refine VL.nil ?_
    refine VE.then_wp ?_
    refine V.seq ?_
    refine V.region ?_
    refine VL.r (.inl rfl) rfl (by decide) (yr_move rfl rfl) ?_
    refine VL.q (.inl rfl) rfl (by decide) (yq_callf rfl known12_Lj (.cons rfl .nil) (fun w hw => (c_implJo (ss := ss29) (by first | exact Sees.root (by assumption) w hw | exact Sees.own (by repeat (first | exact List.mem_cons_self | exact List.mem_append_left _ (by assumption) | apply List.mem_cons_of_mem | apply List.mem_append_right)) w hw) (by first | exact Sees.root (by assumption) w hw | exact Sees.own (by repeat (first | exact List.mem_cons_self | exact List.mem_append_left _ (by assumption) | apply List.mem_cons_of_mem | apply List.mem_append_right)) w hw) (tab_keep hT hw.below) (by omega) (jn_sizes ht29)))) ?_
    refine VL.r (.inl rfl) rfl (by decide) (yr_move rfl rfl) ?_
    refine VL.r (.inl rfl) rfl (by decide) (yr_extract rfl rfl rfl (by nofun)) ?_
    refine VL.r (.inl rfl) rfl (by decide) (yr_extract rfl rfl rfl (by nofun)) ?_
    refine VL.r (.inl rfl) rfl (by decide) (yr_assign rfl rfl) ?_
    refine VL.r (.inl rfl) rfl (by decide) (yr_assign rfl rfl) ?_
    refine VL.nil ?_
    refine VE.then_wp ?_
    refine V.seq ?_
    refine V.seq ?_
    refine V.region ?_
    refine VL.r (.inl rfl) rfl (by decide) (yr_move rfl rfl) ?_
    refine VL.r (.inl rfl) rfl (by decide) (yr_not rfl rfl) ?_
    refine VL.nil ?_
    refine VE.then_wp ?_
    refine V.cond rfl (fun h2 => ?_) (fun h2 => ?_)
    · skip
      replace h2 := bnot_t h2
      rw [hjn.ok.1] at h2; cases h2
    · skip
      replace h2 := bnot_f h2
      refine V.skip ?_
      refine VE.then_wp ?_
      refine V.seq ?_
      refine V.seq ?_
      refine V.region ?_
      refine VL.r (.inl rfl) rfl (by decide) (yr_move rfl rfl) ?_
      refine VL.r (.inl rfl) rfl (by decide) (yr_lenString rfl Tryd.underlying9 rfl) ?_
      refine VL.r (.inl rfl) rfl (by decide) (yr_icmp rfl (.inl rfl) rfl rfl) ?_
      refine VL.nil ?_
      refine VE.then_wp ?_
      refine V.cond rfl (fun h3 => ?_) (fun h3 => ?_)
      · skip
        replace h3 := ic_eql h3
        refine V.seq ?_
        refine V.region ?_
        refine VL.r (.inl rfl) rfl (by decide) (yr_move rfl rfl) ?_
        refine VL.r (.inl rfl) rfl (by decide) (yr_len rfl Tryd.underlying25 rfl) ?_
        refine VL.r (.inl rfl) rfl (by decide) (yr_icmp rfl (.inl rfl) rfl rfl) ?_
        refine VL.r (.inl rfl) rfl (by decide) (yr_assign rfl rfl) ?_
        refine VL.nil ?_
        refine VE.then_wp ?_
        refine V.ret ?_
        refine VE.then_ret ?_
        refine ret1 rfl rfl (fun w1 hw => ?_)
        exact ⟨congrArg Value.bool (by have h8 := jn_empty hjn (by omega); (try dsimp only); rw [h8]; rfl), hw.below⟩
      · skip
        replace h3 := ic_eql' h3
        refine V.skip ?_
        refine VE.then_wp ?_
        refine V.seq ?_
        refine V.region ?_
        refine VL.r (.inl rfl) rfl (by decide) (yr_move rfl rfl) ?_
        refine VL.new (.inl rfl) rfl (by decide) (yn_callf rfl known21_Lj (.cons rfl (.cons rfl (.cons rfl .nil))) (fun w hw => (c_b10At (k := 0) (m := 256) (by first | exact Sees.root (by assumption) w hw | exact Sees.own (by repeat (first | exact List.mem_cons_self | exact List.mem_append_left _ (by assumption) | apply List.mem_cons_of_mem | apply List.mem_append_right)) w hw) hcb (by omega) (by decide) (by omega)))) ?_
        rintro ⟨x44, hx44⟩
        refine VL.r (.inl rfl) rfl (by decide) (yr_mulN x44 256 rfl rfl rfl rfl rfl (by omega)) ?_
        refine VL.r (.inl rfl) rfl (by decide) (yr_move rfl rfl) ?_
        refine VL.new (.inl rfl) rfl (by decide) (yn_callf rfl known21_Lj (.cons rfl (.cons rfl (.cons rfl .nil))) (fun w hw => (c_b10At (k := 1) (m := 256) (by first | exact Sees.root (by assumption) w hw | exact Sees.own (by repeat (first | exact List.mem_cons_self | exact List.mem_append_left _ (by assumption) | apply List.mem_cons_of_mem | apply List.mem_append_right)) w hw) hcb (by omega) (by decide) (by omega)))) ?_
        rintro ⟨x47, hx47⟩
        refine VL.r (.inl rfl) rfl (by decide) (yr_addN (x44 * 256 + x47) rfl rfl rfl (by (try dsimp only); omega) (by omega)) ?_
        refine VL.r (.inl rfl) rfl (by decide) (yr_move rfl rfl) ?_
        refine VL.r (.inl rfl) rfl (by decide) (yr_lenString rfl Tryd.underlying9 rfl) ?_
        refine VL.new (.inl rfl) rfl (by decide) (yn_remL (x44 * 256 + x47) (jR ss29).size rfl rfl rfl rfl rfl (by omega)) ?_
        rintro ⟨at9, hat9⟩
        obtain ⟨q1, q2, q3, q4, q5, q6, -⟩ := jn_cut hjn hat9
        have q9 : (rO ((jR ss29).extract 0 at9)).length = cN (jR ss29) at9 := by rw [q2, List.length_take, Nat.min_eq_left q4]
        refine VL.r (.inl rfl) rfl (by decide) (yr_assign rfl rfl) ?_
        refine VL.nil ?_
        refine VE.then_wp ?_
        refine V.seq ?_
        refine V.region ?_
        refine VL.r (.inl rfl) rfl (by decide) (yr_move rfl rfl) ?_
        refine VL.r (.inl rfl) rfl (by decide) (yr_move rfl rfl) ?_
        refine VL.r (.inl rfl) rfl (by decide) (yr_strPart (l := 0) (h := at9) rfl Tryd.underlying9 rfl OptI.no (OptI.at rfl rfl) (by omega) (by first | omega | exact (jn_bent hjn hat9 ((x122 : Nat) : Int)).2.2.2.1)) ?_
        refine VL.new1 (.inl rfl) rfl (by decide) (yn_callf rfl known15_Lj (.cons rfl .nil) (fun w hw => (c_implRj (s := ((jR ss29).extract 0 at9)) (by first | exact Sees.root (by assumption) w hw | exact Sees.own (by repeat (first | exact List.mem_cons_self | exact List.mem_append_left _ (by assumption) | apply List.mem_cons_of_mem | apply List.mem_append_right)) w hw) (tab_keep hT hw.below)))) ?_
        rintro ⟨a56, c56⟩
        refine VL.r (.inl rfl) rfl (by decide) (yr_move rfl rfl) ?_
        refine VL.r (.inl rfl) rfl (by decide) (yr_extract rfl rfl rfl (by nofun)) ?_
        refine VL.r (.inl rfl) rfl (by decide) (yr_extract rfl rfl rfl (by nofun)) ?_
        refine VL.r (.inl rfl) rfl (by decide) (yr_extract rfl rfl rfl (by nofun)) ?_
        refine VL.r (.inl rfl) rfl (by decide) (yr_assign rfl rfl) ?_
        refine VL.r (.inl rfl) rfl (by decide) (yr_assign rfl rfl) ?_
        refine VL.r (.inl rfl) rfl (by decide) (yr_assign rfl rfl) ?_
        refine VL.nil ?_
        refine VE.then_wp ?_
        refine V.seq ?_
        refine V.region ?_
        refine VL.r (.inl rfl) rfl (by decide) (yr_move rfl rfl) ?_
        refine VL.q (.inl rfl) rfl (by decide) (yq_callf rfl known12_Lj (.cons rfl .nil) (fun w hw => (c_implJo (ss := rO ((jR ss29).extract 0 at9)) (by first | exact Sees.root (by assumption) w hw | exact Sees.own (by repeat (first | exact List.mem_cons_self | exact List.mem_append_left _ (by assumption) | apply List.mem_cons_of_mem | apply List.mem_append_right)) w hw) (by first | exact Sees.root (by assumption) w hw | exact Sees.own (by repeat (first | exact List.mem_cons_self | exact List.mem_append_left _ (by assumption) | apply List.mem_cons_of_mem | apply List.mem_append_right)) w hw) (tab_keep hT hw.below) (by have := rO_len ((jR ss29).extract 0 at9); omega) (rO_sizes ((jR ss29).extract 0 at9))))) ?_
        refine VL.r (.inl rfl) rfl (by decide) (yr_move rfl rfl) ?_
        refine VL.r (.inl rfl) rfl (by decide) (yr_extract rfl rfl rfl (by nofun)) ?_
        refine VL.r (.inl rfl) rfl (by decide) (yr_extract rfl rfl rfl (by nofun)) ?_
        refine VL.r (.inl rfl) rfl (by decide) (yr_assign rfl rfl) ?_
        refine VL.r (.inl rfl) rfl (by decide) (yr_assign rfl rfl) ?_
        refine VL.nil ?_
        refine VE.then_wp ?_
        refine V.seq ?_
        refine V.region ?_
        refine VL.r (.inl rfl) rfl (by decide) (yr_assign (u := .int .i64 0) rfl rfl) ?_
        refine VL.nil ?_
        refine VE.then_wp ?_
        refine V.seq ?_
        refine V.seq ?_
        refine V.region ?_
        refine VL.r (.inl rfl) rfl (by decide) (yr_assign (u := .int .i64 0) rfl rfl) ?_
        refine VL.nil ?_
        refine VE.then_wp ?_
        refine V.block ?_
        refine V.loops (G := Nat) [(1, _), (5, _), (6, _), (8, _), (9, _), (10, _), (11, _), (12, _), (13, _)] (fun (i : Nat) => i ≤ at9) (fun (i : Nat) => [(14, .int .i64 ((cN (jR ss29) i : Nat) : Int)), (15, .int .i64 (i : Int))]) (fun (i : Nat) => at9 - i) 0 (.cons rfl (.cons rfl (.cons rfl (.cons rfl (.cons rfl (.cons rfl (.cons rfl (.cons rfl (.cons rfl .nil))))))))) (.cons (congrArg (fun i => some (Value.int .i64 i)) (by unfold cN; rfl)) (.cons rfl .nil)) ?_ ?_
        · exact (Nat.zero_le _)
        rintro i hi9
        show V _ _ _ _ ([(14, .int .i64 ((cN (jR ss29) i : Nat) : Int)), (15, .int .i64 (i : Int))] ++ [(1, _), (5, _), (6, _), (8, _), (9, _), (10, _), (11, _), (12, _), (13, _)]) _ _
        have hcn9 := cN_le (jR ss29) i
        refine V.seq ?_
        refine V.seq ?_
        refine V.region ?_
        refine VL.r (.inl rfl) rfl (by decide) (yr_move rfl rfl) ?_
        refine VL.r (.inl rfl) rfl (by decide) (yr_move rfl rfl) ?_
        refine VL.r (.inl rfl) rfl (by decide) (yr_icmp rfl (.inr (.inr (.inl rfl))) rfl rfl) ?_
        refine VL.nil ?_
        refine VE.then_wp ?_
        refine V.cond rfl (fun h4 => ?_) (fun h4 => ?_)
        · skip
          replace h4 := ic_lss h4
          replace h4 : i < at9 := by dsimp only at h4; omega
          refine V.skip ?_
          refine VE.then_wp ?_
          refine V.seq ?_
          refine V.block ?_
          refine V.seq ?_
          refine V.region ?_
          refine VL.r (.inl rfl) rfl (by decide) (yr_move rfl rfl) ?_
          refine VL.r (.inl rfl) rfl (by decide) (yr_move rfl rfl) ?_
          refine VL.r (.inl rfl) rfl (by decide) (yr_strByte (i := i) rfl Tryd.underlying9 rfl rfl (by first | rfl | omega | (push_cast; rfl) | (push_cast; omega)) (by omega)) ?_
          refine VL.r (.inl rfl) rfl (by decide) (yr_icmp rfl (.inl rfl) rfl rfl) ?_
          refine VL.nil ?_
          refine VE.then_wp ?_
          refine V.cond rfl (fun h5 => ?_) (fun h5 => ?_)
          · skip
            replace h5 := ic_eql h5
            refine V.region ?_
            refine VL.r (.inl rfl) rfl (by decide) (yr_move rfl rfl) ?_
            refine VL.r (.inl rfl) rfl (by decide) (yr_addN (cN (jR ss29) i + 1) rfl rfl rfl (by omega) (by omega)) ?_
            refine VL.r (.inl rfl) rfl (by decide) (yr_assign rfl rfl) ?_
            refine VL.nil ?_
            refine VE.block_normal ?_
            refine VE.then_wp ?_
            refine V.region ?_
            refine VL.r (.inl rfl) rfl (by decide) (yr_move rfl rfl) ?_
            refine VL.r (.inl rfl) rfl (by decide) (yr_int rfl rfl rfl (.inl ⟨rfl, wrap_in (by omega)⟩)) ?_
            refine VL.r (.inl rfl) rfl (by decide) (yr_assign rfl rfl) ?_
            refine VL.nil ?_
            refine VE.round (i + 1) ?_ ?_ ?_ ?_ ?_
            · exact (.cons (congrArg (fun i => some (Value.int .i64 i)) (by first | (rw [cN_y (by omega)]; done) | (rw [cN_n (by omega)]; done) | (rw [cN_y (by omega)]; rfl) | (rw [cN_n (by omega)]; rfl))) (.cons rfl .nil))
            · exact (.cons rfl (.cons rfl (.cons rfl (.cons rfl (.cons rfl (.cons rfl (.cons rfl (.cons rfl (.cons rfl .nil)))))))))
            · exact (fun w hw => hw)
            · (try dsimp only); omega
            · (try dsimp only); omega
          · skip
            replace h5 := ic_eql' h5
            refine V.skip ?_
            refine VE.block_normal ?_
            refine VE.then_wp ?_
            refine V.region ?_
            refine VL.r (.inl rfl) rfl (by decide) (yr_move rfl rfl) ?_
            refine VL.r (.inl rfl) rfl (by decide) (yr_int rfl rfl rfl (.inl ⟨rfl, wrap_in (by omega)⟩)) ?_
            refine VL.r (.inl rfl) rfl (by decide) (yr_assign rfl rfl) ?_
            refine VL.nil ?_
            refine VE.round (i + 1) ?_ ?_ ?_ ?_ ?_
            · exact (.cons (congrArg (fun i => some (Value.int .i64 i)) (by first | (rw [cN_y (by omega)]; done) | (rw [cN_n (by omega)]; done) | (rw [cN_y (by omega)]; rfl) | (rw [cN_n (by omega)]; rfl))) (.cons rfl .nil))
            · exact (.cons rfl (.cons rfl (.cons rfl (.cons rfl (.cons rfl (.cons rfl (.cons rfl (.cons rfl (.cons rfl .nil)))))))))
            · exact (fun w hw => hw)
            · (try dsimp only); omega
            · (try dsimp only); omega
        · skip
          replace h4 := ic_lss' h4
          replace h4 : ¬ i < at9 := by dsimp only at h4; omega
          obtain rfl : at9 = i := by omega
          refine V.exit ?_
          refine VE.then_exit ?_
          refine VE.then_exit ?_
          refine VE.block_here ?_
          refine VE.then_wp ?_
          refine V.seq ?_
          refine V.seq ?_
          refine V.region ?_
          refine VL.r (.inl rfl) rfl (by decide) (yr_move rfl rfl) ?_
          refine VL.r (.inl rfl) rfl (by decide) (yr_not rfl rfl) ?_
          refine VL.r (.inl rfl) rfl (by decide) (yr_move rfl rfl) ?_
          refine VX.split 78 _ rfl (fun h6 => ?_) (fun h6 => ?_)
          · skip
            replace h6 := bnot_t h6
            rw [q1] at h6; cases h6
          · skip
            replace h6 := bnot_f h6
            refine VL.r (.inr ⟨_, _, _, rfl, rfl, rfl⟩) rfl (by decide) (yr_move rfl rfl) ?_
            refine VL.r (.inr ⟨_, _, _, rfl, rfl, rfl⟩) rfl (by decide) (yr_not rfl rfl) ?_
            refine VL.r (.inl rfl) rfl (by decide) (yr_pick_f rfl rfl rfl) ?_
            refine VL.r (.inl rfl) rfl (by decide) (yr_move rfl rfl) ?_
            refine VX.split 82 _ rfl (fun h7 => ?_) (fun h7 => ?_)
            · skip
              replace h7 := bnot_t h7
              rw [q5] at h7; cases h7
            · skip
              replace h7 := bnot_f h7
              refine VL.r (.inr ⟨_, _, _, rfl, rfl, rfl⟩) rfl (by decide) (yr_move rfl rfl) ?_
              refine VL.r (.inr ⟨_, _, _, rfl, rfl, rfl⟩) rfl (by decide) (yr_len rfl Tryd.underlying25 rfl) ?_
              refine VL.r (.inr ⟨_, _, _, rfl, rfl, rfl⟩) rfl (by decide) (yr_move rfl rfl) ?_
              refine VL.r (.inr ⟨_, _, _, rfl, rfl, rfl⟩) rfl (by decide) (yr_icmp rfl (.inr (.inl rfl)) rfl rfl) ?_
              refine VL.r (.inl rfl) rfl (by decide) (yr_pick_f rfl rfl rfl) ?_
              refine VL.r (.inl rfl) rfl (by decide) (yr_move rfl rfl) ?_
              refine VX.split 88 _ rfl (fun h8 => ?_) (fun h8 => ?_)
              · skip
                replace h8 := ic_neq h8
                first | (exfalso; omega) | (simp [bcmp] at h8; done)
              · skip
                replace h8 := ic_neq' h8
                refine VL.r (.inr ⟨_, _, _, rfl, rfl, rfl⟩) rfl (by decide) (yr_move rfl rfl) ?_
                refine VL.r (.inr ⟨_, _, _, rfl, rfl, rfl⟩) rfl (by decide) (yr_icmp rfl (.inr (.inr (.inl rfl))) rfl rfl) ?_
                refine VL.r (.inl rfl) rfl (by decide) (yr_pick_f rfl rfl rfl) ?_
                refine VL.r (.inl rfl) rfl (by decide) (yr_move rfl rfl) ?_
                refine VX.split 92 _ rfl (fun h9 => ?_) (fun h9 => ?_)
                · skip
                  replace h9 := ic_lss h9
                  first | (exfalso; omega) | (simp [bcmp] at h9; done)
                · skip
                  replace h9 := ic_lss' h9
                  refine VL.r (.inr ⟨_, _, _, rfl, rfl, rfl⟩) rfl (by decide) (yr_move rfl rfl) ?_
                  refine VL.r (.inr ⟨_, _, _, rfl, rfl, rfl⟩) rfl (by decide) (yr_move rfl rfl) ?_
                  refine VL.r (.inr ⟨_, _, _, rfl, rfl, rfl⟩) rfl (by decide) (yr_icmp rfl (.inr (.inr (.inr (.inr (.inl rfl))))) rfl rfl) ?_
                  refine VL.r (.inl rfl) rfl (by decide) (yr_pick_f rfl rfl rfl) ?_
                  refine VL.r (.inl rfl) rfl (by decide) (yr_move rfl rfl) ?_
                  refine VX.split 97 _ rfl (fun h10 => ?_) (fun h10 => ?_)
                  · skip
                    replace h10 := ic_gtr h10
                    exfalso; (try dsimp only at h10); omega
                  · skip
                    replace h10 := ic_gtr' h10
                    refine VL.r (.inr ⟨_, _, _, rfl, rfl, rfl⟩) rfl (by decide) (yr_move rfl rfl) ?_
                    refine VL.r (.inr ⟨_, _, _, rfl, rfl, rfl⟩) rfl (by decide) (yr_move rfl rfl) ?_
                    refine VL.r (.inr ⟨_, _, _, rfl, rfl, rfl⟩) rfl (by decide) (yr_move rfl rfl) ?_
                    refine VL.r (.inr ⟨_, _, _, rfl, rfl, rfl⟩) rfl (by decide) (yr_strPart (l := 0) (h := rN ((jR ss29).extract 0 at9)) rfl Tryd.underlying9 rfl OptI.no (OptI.at rfl rfl) (by omega) (by first | omega | exact (jn_bent hjn hat9 ((x122 : Nat) : Int)).2.2.2.1)) ?_
                    refine VL.r (.inr ⟨_, _, _, rfl, rfl, rfl⟩) rfl (by decide) (yr_scmp rfl rfl rfl (.inr rfl)) ?_
                    refine VL.r (.inl rfl) rfl (by decide) (yr_pick_f rfl rfl rfl) ?_
                    refine VL.nil ?_
                    refine VE.then_wp ?_
                    refine V.cond rfl (fun h11 => ?_) (fun h11 => ?_)
                    · skip
                      rw [q6, scmp_ne_self] at h11; cases h11
                    · skip
                      refine V.skip ?_
                      refine VE.then_wp ?_
                      refine V.seq ?_
                      refine V.seq ?_
                      refine V.region ?_
                      refine VL.r (.inl rfl) rfl (by decide) (yr_assign (u := .int .i64 0) rfl rfl) ?_
                      refine VL.nil ?_
                      refine VE.then_wp ?_
                      refine V.block ?_
                      refine V.loops (G := Nat) [(1, _), (5, _), (6, _), (8, _), (9, _), (10, _), (14, _)] (fun (k : Nat) => k ≤ cN (jR ss29) at9) (fun (k : Nat) => [(16, .int .i64 (k : Int))]) (fun (k : Nat) => cN (jR ss29) at9 - k) 0 (.cons rfl (.cons rfl (.cons rfl (.cons rfl (.cons rfl (.cons rfl (.cons rfl .nil))))))) (.cons rfl .nil) ?_ ?_
                      · exact (Nat.zero_le _)
                      rintro k hk9
                      show V _ _ _ _ ([(16, .int .i64 (k : Int))] ++ [(1, _), (5, _), (6, _), (8, _), (9, _), (10, _), (14, _)]) _ _
                      refine V.seq ?_
                      refine V.seq ?_
                      refine V.region ?_
                      refine VL.r (.inl rfl) rfl (by decide) (yr_move rfl rfl) ?_
                      refine VL.r (.inl rfl) rfl (by decide) (yr_move rfl rfl) ?_
                      refine VL.r (.inl rfl) rfl (by decide) (yr_icmp rfl (.inr (.inr (.inl rfl))) rfl rfl) ?_
                      refine VL.nil ?_
                      refine VE.then_wp ?_
                      refine V.cond rfl (fun h12 => ?_) (fun h12 => ?_)
                      · skip
                        replace h12 := ic_lss h12
                        refine V.skip ?_
                        refine VE.then_wp ?_
                        refine V.seq ?_
                        refine V.block ?_
                        refine V.seq ?_
                        refine Dr.V.drawR [(0, 5), (1, 5), (2, 5), (3, 5), (4, 5), (5, 5), (6, 5), (7, 5), (8, 5)] [] [] _ mixed_Lj (by kernel_rfl) (fun w hw => hw) ?_
                        refine Dr.SW.r rfl (.inl rfl) rfl (by decide) (yr_move rfl rfl) ?_
                        refine Dr.SW.r rfl (.inl rfl) rfl (by decide) (yr_move rfl rfl) ?_
                        refine Dr.SW.p rfl (.inl rfl) rfl (by decide) (yq_idx (k := k) rfl Tryd.underlying25 sz9_Lj rfl rfl (by first | exact Sees.root (by assumption) | exact Sees.own (by (try simp only [List.append_assoc, List.cons_append, List.nil_append]); repeat (first | exact List.mem_cons_self | exact List.mem_append_left _ (by assumption) | apply List.mem_cons_of_mem | apply List.mem_append_right)) | exact Sees.root (hR _ (by omega)) | exact Sees.own (RowsIn.mem (by (try simp only [List.append_assoc, List.cons_append, List.nil_append]); repeat (first | exact RowsIn.here | exact RowsIn.last | apply RowsIn.there | apply RowsIn.thereS)) _ (by omega)) | exact Sees.own (WRowsIn.mem (by (try simp only [List.append_assoc, List.cons_append, List.nil_append]); repeat (first | exact WRowsIn.here | exact WRowsIn.last | apply WRowsIn.there | apply WRowsIn.thereS)) _ (by omega))) (by first | rfl | omega | (push_cast; rfl) | (push_cast; omega) | exact tmod_nat _ _) (by exact sx_length _) (by (try dsimp only); omega)) ?_
                        refine Dr.SW.p rfl (.inl rfl) rfl (by decide) (yq_load (u := .string ((rO ((jR ss29).extract 0 at9)).getD k emB)) rfl fb9_Lj rfl (by first | exact Sees.root (by assumption) | exact Sees.own (by (try simp only [List.append_assoc, List.cons_append, List.nil_append]); repeat (first | exact List.mem_cons_self | exact List.mem_append_left _ (by assumption) | apply List.mem_cons_of_mem | apply List.mem_append_right)) | exact Sees.root (hR _ (by omega)) | exact Sees.own (RowsIn.mem (by (try simp only [List.append_assoc, List.cons_append, List.nil_append]); repeat (first | exact RowsIn.here | exact RowsIn.last | apply RowsIn.there | apply RowsIn.thereS)) _ (by omega)) | exact Sees.own (WRowsIn.mem (by (try simp only [List.append_assoc, List.cons_append, List.nil_append]); repeat (first | exact WRowsIn.here | exact WRowsIn.last | apply WRowsIn.there | apply WRowsIn.thereS)) _ (by omega))) (sx_get (by omega))) ?_
                        refine Dr.SW.r rfl (.inl rfl) rfl (by decide) (yr_move rfl rfl) ?_
                        refine Dr.SW.r rfl (.inl rfl) rfl (by decide) (yr_move rfl rfl) ?_
                        refine Dr.SW.p rfl (.inl rfl) rfl (by decide) (yq_idx (k := k) rfl Tryd.underlying25 sz9_Lj rfl rfl (by first | exact Sees.root (by assumption) | exact Sees.own (by (try simp only [List.append_assoc, List.cons_append, List.nil_append]); repeat (first | exact List.mem_cons_self | exact List.mem_append_left _ (by assumption) | apply List.mem_cons_of_mem | apply List.mem_append_right)) | exact Sees.root (hR _ (by omega)) | exact Sees.own (RowsIn.mem (by (try simp only [List.append_assoc, List.cons_append, List.nil_append]); repeat (first | exact RowsIn.here | exact RowsIn.last | apply RowsIn.there | apply RowsIn.thereS)) _ (by omega)) | exact Sees.own (WRowsIn.mem (by (try simp only [List.append_assoc, List.cons_append, List.nil_append]); repeat (first | exact WRowsIn.here | exact WRowsIn.last | apply WRowsIn.there | apply WRowsIn.thereS)) _ (by omega))) (by first | rfl | omega | (push_cast; rfl) | (push_cast; omega) | exact tmod_nat _ _) (by exact sx_length _) (by (try dsimp only); omega)) ?_
                        refine Dr.SW.p rfl (.inl rfl) rfl (by decide) (yq_load (u := .string (ss29.getD k emB)) rfl fb9_Lj rfl (by first | exact Sees.root (by assumption) | exact Sees.own (by (try simp only [List.append_assoc, List.cons_append, List.nil_append]); repeat (first | exact List.mem_cons_self | exact List.mem_append_left _ (by assumption) | apply List.mem_cons_of_mem | apply List.mem_append_right)) | exact Sees.root (hR _ (by omega)) | exact Sees.own (RowsIn.mem (by (try simp only [List.append_assoc, List.cons_append, List.nil_append]); repeat (first | exact RowsIn.here | exact RowsIn.last | apply RowsIn.there | apply RowsIn.thereS)) _ (by omega)) | exact Sees.own (WRowsIn.mem (by (try simp only [List.append_assoc, List.cons_append, List.nil_append]); repeat (first | exact WRowsIn.here | exact WRowsIn.last | apply WRowsIn.there | apply WRowsIn.thereS)) _ (by omega))) (sx_get (by omega))) ?_
                        refine Dr.SW.r rfl (.inl rfl) rfl (by decide) (yr_scmp rfl rfl rfl (.inr rfl)) ?_
                        refine Dr.SW.done ?_
                        refine Dr.eqO (by simp only [List.append_nil, List.append_assoc, List.cons_append, List.nil_append] <;> rfl) ?_
                        refine VE.then_wp ?_
                        refine V.cond rfl (fun h13 => ?_) (fun h13 => ?_)
                        · skip
                          rw [q2, take_at (show k < cN (jR ss29) at9 by omega), scmp_ne_self] at h13; cases h13
                        · skip
                          refine V.skip ?_
                          refine VE.block_normal ?_
                          refine VE.then_wp ?_
                          refine V.region ?_
                          refine VL.r (.inl rfl) rfl (by decide) (yr_move rfl rfl) ?_
                          refine VL.r (.inl rfl) rfl (by decide) (yr_int rfl rfl rfl (.inl ⟨rfl, wrap_in (by omega)⟩)) ?_
                          refine VL.r (.inl rfl) rfl (by decide) (yr_assign rfl rfl) ?_
                          refine VL.nil ?_
                          refine VE.round (k + 1) ?_ ?_ ?_ ?_ ?_
                          · exact (.cons rfl .nil)
                          · exact (.cons rfl (.cons rfl (.cons rfl (.cons rfl (.cons rfl (.cons rfl (.cons rfl .nil)))))))
                          · exact (fun w hw => hw)
                          · (try dsimp only); omega
                          · (try dsimp only); omega
                      · skip
                        replace h12 := ic_lss' h12
                        refine V.exit ?_
                        refine VE.then_exit ?_
                        refine VE.then_exit ?_
                        refine VE.block_here ?_
                        refine VE.then_wp ?_
                        refine V.seq ?_
                        refine V.draw [(0, 0), (1, 0), (2, 0), (3, 0), (9, 0), (10, 0), (11, 0), (12, 0), (4, 1), (5, 0), (6, 1), (7, 0), (8, 0), (13, 0), (14, 0)] mixed_Lj (by kernel_rfl) (by intro j o hj; simp at hj) ?_
                        refine SW.r rfl (.inl rfl) rfl (by decide) (yr_move rfl rfl) ?_
                        refine SW.r rfl (.inl rfl) rfl (by decide) (yr_move rfl rfl) ?_
                        refine SW.r rfl (.inl rfl) rfl (by decide) (yr_strPart (l := 0) (h := at9) rfl Tryd.underlying9 rfl OptI.no (OptI.at rfl rfl) (by omega) (by first | omega | exact (jn_bent hjn hat9 ((x122 : Nat) : Int)).2.2.2.1)) ?_
                        refine SW.r rfl (.inl rfl) rfl (by decide) (yr_move rfl rfl) ?_
                        refine SW.r rfl (.inl rfl) rfl (by decide) (yr_move rfl rfl) ?_
                        refine SW.r rfl (.inl rfl) rfl (by decide) (yr_move rfl rfl) ?_
                        refine SW.r rfl (.inl rfl) rfl (by decide) (yr_addN (at9 + 1) rfl rfl rfl (by (try dsimp only); omega) (by omega)) ?_
                        refine SW.r rfl (.inl rfl) rfl (by decide) (yr_strPart (l := at9 + 1) (h := (jR ss29).size) rfl Tryd.underlying9 rfl (OptI.at rfl rfl) OptI.no (by omega) (by first | omega | exact (jn_bent hjn hat9 ((x122 : Nat) : Int)).2.2.2.1)) ?_
                        refine SW.new rfl (.inl rfl) rfl (by decide) (yn_callf rfl known21_Lj (.cons rfl (.cons rfl (.cons rfl .nil))) (fun w hw => (c_b10At (k := 2) (m := 256) (by first | exact Sees.root (by assumption) w hw | exact Sees.own (by repeat (first | exact List.mem_cons_self | exact List.mem_append_left _ (by assumption) | apply List.mem_cons_of_mem | apply List.mem_append_right)) w hw) hcb (by omega) (by decide) (by omega)))) ?_
                        rintro ⟨x122, hx122⟩
                        refine SW.r rfl (.inl rfl) rfl (by decide) (yr_intConv rfl Tryd.underlying2 Tryd.underlying5 rfl (u8_nat hx122)) ?_
                        refine SW.new1 rfl (.inl rfl) rfl (by decide) (yn_lit rfl Tryd.underlying34 elt5_Lj rfl (by decide) (.cons rfl .nil) (by first | (simp; done) | (simp [cn, cn1, cn0]; done)) rfl rfl rfl) ?_
                        intro b124
                        refine SW.q rfl (.inl rfl) rfl (by decide) (yq_bts (bs := [((x122 : Nat) : Int)]) rfl Tryd.underlying34 Tryd.underlying5 Tryd.underlying9 rfl (by first | exact Sees.root (by assumption) | exact Sees.own (by repeat (first | exact List.mem_cons_self | exact List.mem_append_left _ (by assumption) | apply List.mem_cons_of_mem | apply List.mem_append_right)) | exact Sees.root (hR _ (by omega)) | exact Sees.own (RowsIn.mem (by repeat (first | exact RowsIn.here | exact RowsIn.last | apply RowsIn.there | apply RowsIn.thereS)) _ (by omega)) | exact Sees.own (WRowsIn.mem (by repeat (first | exact WRowsIn.here | exact WRowsIn.last | apply WRowsIn.there | apply WRowsIn.thereS)) _ (by omega))) rfl) ?_
                        refine SW.r rfl (.inl rfl) rfl (by decide) (yr_strAdd (c := (jR ss29).extract 0 at9 ++ stb [((x122 : Nat) : Int)]) rfl rfl rfl (by rw [stb_size, extract_size (by omega)]; show at9 + 1 ≤ _; omega) rfl) ?_
                        refine SW.r rfl (.inl rfl) rfl (by decide) (yr_strAdd (c := (bent (jR ss29) at9 ((x122 : Nat) : Int))) rfl rfl rfl (by rw [app_size, stb_size, extract_size (by omega), extract_size (Nat.le_refl _)]; show at9 + 1 + _ ≤ _; omega) (bent_eq _ _ _)) ?_
                        refine SW.r rfl (.inl rfl) rfl (by decide) (yr_assign rfl rfl) ?_
                        refine SW.done ?_
                        refine VE.then_wp ?_
                        refine V.seq ?_
                        refine V.region ?_
                        refine VL.r (.inl rfl) rfl (by decide) (yr_move rfl rfl) ?_
                        refine VL.new1 (.inl rfl) rfl (by decide) (yn_callf rfl known15_Lj (.cons rfl .nil) (fun w hw => (c_implRj (s := (bent (jR ss29) at9 ((x122 : Nat) : Int))) (by first | exact Sees.root (by assumption) w hw | exact Sees.own (by repeat (first | exact List.mem_cons_self | exact List.mem_append_left _ (by assumption) | apply List.mem_cons_of_mem | apply List.mem_append_right)) w hw) (tab_keep hT hw.below)))) ?_
                        rintro ⟨a134, c134⟩
                        refine VL.r (.inl rfl) rfl (by decide) (yr_move rfl rfl) ?_
                        refine VL.r (.inl rfl) rfl (by decide) (yr_extract rfl rfl rfl (by nofun)) ?_
                        refine VL.r (.inl rfl) rfl (by decide) (yr_extract rfl rfl rfl (by nofun)) ?_
                        refine VL.r (.inl rfl) rfl (by decide) (yr_extract rfl rfl rfl (by nofun)) ?_
                        refine VL.r (.inl rfl) rfl (by decide) (yr_assign rfl rfl) ?_
                        refine VL.r (.inl rfl) rfl (by decide) (yr_assign rfl rfl) ?_
                        refine VL.r (.inl rfl) rfl (by decide) (yr_assign rfl rfl) ?_
                        refine VL.nil ?_
                        refine VE.then_wp ?_
                        refine V.seq ?_
                        refine V.region ?_
                        refine VL.r (.inl rfl) rfl (by decide) (yr_move rfl rfl) ?_
                        refine VL.q (.inl rfl) rfl (by decide) (yq_callf rfl known12_Lj (.cons rfl .nil) (fun w hw => (c_implJo (ss := rO (bent (jR ss29) at9 ((x122 : Nat) : Int))) (by first | exact Sees.root (by assumption) w hw | exact Sees.own (by repeat (first | exact List.mem_cons_self | exact List.mem_append_left _ (by assumption) | apply List.mem_cons_of_mem | apply List.mem_append_right)) w hw) (by first | exact Sees.root (by assumption) w hw | exact Sees.own (by repeat (first | exact List.mem_cons_self | exact List.mem_append_left _ (by assumption) | apply List.mem_cons_of_mem | apply List.mem_append_right)) w hw) (tab_keep hT hw.below) (by have := rO_len (bent (jR ss29) at9 ((x122 : Nat) : Int)); omega) (rO_sizes (bent (jR ss29) at9 ((x122 : Nat) : Int)))))) ?_
                        refine VL.r (.inl rfl) rfl (by decide) (yr_move rfl rfl) ?_
                        refine VL.r (.inl rfl) rfl (by decide) (yr_extract rfl rfl rfl (by nofun)) ?_
                        refine VL.r (.inl rfl) rfl (by decide) (yr_extract rfl rfl rfl (by nofun)) ?_
                        refine VL.r (.inl rfl) rfl (by decide) (yr_assign rfl rfl) ?_
                        refine VL.r (.inl rfl) rfl (by decide) (yr_assign rfl rfl) ?_
                        refine VL.nil ?_
                        refine VE.then_wp ?_
                        refine V.seq ?_
                        refine V.region ?_
                        refine VL.r (.inl rfl) rfl (by decide) (yr_move rfl rfl) ?_
                        refine VL.r (.inl rfl) rfl (by decide) (yr_move rfl rfl) ?_
                        refine VX.split 144 _ rfl (fun h14 => ?_) (fun h14 => ?_)
                        · skip
                          refine VL.r (.inr ⟨_, _, _, rfl, rfl, rfl⟩) rfl (by decide) (yr_move rfl rfl) ?_
                          refine VL.r (.inl rfl) rfl (by decide) (yr_pick_t rfl rfl rfl) ?_
                          refine VL.r (.inl rfl) rfl (by decide) (yr_move rfl rfl) ?_
                          refine VX.split 147 _ rfl (fun h15 => ?_) (fun h15 => ?_)
                          · skip
                            refine VL.r (.inr ⟨_, _, _, rfl, rfl, rfl⟩) rfl (by decide) (yr_move rfl rfl) ?_
                            refine VL.r (.inr ⟨_, _, _, rfl, rfl, rfl⟩) rfl (by decide) (yr_move rfl rfl) ?_
                            refine VL.r (.inr ⟨_, _, _, rfl, rfl, rfl⟩) rfl (by decide) (yr_icmp rfl (.inr (.inr (.inr (.inr (.inr rfl))))) rfl rfl) ?_
                            refine VL.r (.inl rfl) rfl (by decide) (yr_pick_t rfl rfl rfl) ?_
                            refine VL.r (.inl rfl) rfl (by decide) (yr_move rfl rfl) ?_
                            refine VX.split 152 _ rfl (fun h16 => ?_) (fun h16 => ?_)
                            · skip
                              replace h16 := ic_geq h16
                              refine VL.r (.inr ⟨_, _, _, rfl, rfl, rfl⟩) rfl (by decide) (yr_move rfl rfl) ?_
                              refine VL.r (.inr ⟨_, _, _, rfl, rfl, rfl⟩) rfl (by decide) (yr_move rfl rfl) ?_
                              refine VL.r (.inr ⟨_, _, _, rfl, rfl, rfl⟩) rfl (by decide) (yr_lenString rfl Tryd.underlying9 rfl) ?_
                              refine VL.r (.inr ⟨_, _, _, rfl, rfl, rfl⟩) rfl (by decide) (yr_icmp rfl (.inr (.inr (.inr (.inl rfl)))) rfl rfl) ?_
                              refine VL.r (.inl rfl) rfl (by decide) (yr_pick_t rfl rfl rfl) ?_
                              refine VL.r (.inl rfl) rfl (by decide) (yr_move rfl rfl) ?_
                              refine VX.split 158 _ rfl (fun h17 => ?_) (fun h17 => ?_)
                              · skip
                                replace h17 := ic_leq h17
                                refine VL.r (.inr ⟨_, _, _, rfl, rfl, rfl⟩) rfl (by decide) (yr_move rfl rfl) ?_
                                refine VL.r (.inr ⟨_, _, _, rfl, rfl, rfl⟩) rfl (by decide) (yr_move rfl rfl) ?_
                                refine VL.r (.inr ⟨_, _, _, rfl, rfl, rfl⟩) rfl (by decide) (yr_move rfl rfl) ?_
                                refine VL.r (.inr ⟨_, _, _, rfl, rfl, rfl⟩) rfl (by decide) (yr_strPart (l := 0) (h := rN (bent (jR ss29) at9 ((x122 : Nat) : Int))) rfl Tryd.underlying9 rfl OptI.no (OptI.at rfl rfl) (by omega) (by first | omega | exact (jn_bent hjn hat9 ((x122 : Nat) : Int)).2.2.2.1)) ?_
                                refine VL.r (.inr ⟨_, _, _, rfl, rfl, rfl⟩) rfl (by decide) (yr_scmp rfl rfl rfl (.inl rfl)) ?_
                                refine VL.r (.inl rfl) rfl (by decide) (yr_pick_t rfl rfl rfl) ?_
                                refine VL.r (.inl rfl) rfl (by decide) (yr_assign rfl rfl) ?_
                                refine VL.nil ?_
                                refine VE.then_wp ?_
                                refine V.ret ?_
                                refine ret1 rfl rfl (fun w1 hw => ?_)
                                exact ⟨congrArg Value.bool (scmp_iff.2 (jn_bent hjn hat9 ((x122 : Nat) : Int)).2.2.2.2), hw.below⟩
                              · skip
                                replace h17 := ic_leq' h17
                                exfalso; have h8 := (jn_bent hjn hat9 ((x122 : Nat) : Int)).2.2.2.1; omega
                            · skip
                              replace h16 := ic_geq' h16
                              exfalso; have h8 := (jn_bent hjn hat9 ((x122 : Nat) : Int)).2.2.1; omega
                          · skip
                            rw [(jn_bent hjn hat9 ((x122 : Nat) : Int)).2.1] at h15; cases h15
                        · skip
                          rw [(jn_bent hjn hat9 ((x122 : Nat) : Int)).1] at h14; cases h14

end Go.Proofs.YtmecikeaogjmpaaDoor


namespace Go.Proofs.YtmecikeaogjmpaaDoor
open Go.RowKit Go.ChangeShapes Go.WideShapes Go.Deep

section
variable {H : Type} {enc : TypeId × Value → H} {P : Program} {w : World} {base : Nat} {spare : Nat → Bool} {held : Bool}
theorem open_u8s {r : Reach} {b0 : Nat} {t e : TypeId} {v : Value} {d : DataW H} {ps : List MemPlace} (ht : P.underlying t = some (.slice e)) (he : P.underlying e = some (.int .u8)) (hc : P.cellsOf e = 1)
    (hval : Value.okWide P w r b0 t v) (hd : DataW.Trod enc P w base spare held t v d ps) :
    ∃ (a : Option Addr) (bs : List Int) (c : Nat), v = .slice a bs.length c ∧ Cl w a (bl bs) ∧ Bytes bs := by
  obtain ⟨a, len, cap, rfl⟩ := okWide_slice ht hval
  obtain ⟨fuel, hd⟩ := hd
  rcases open_slice1 ht hc hd with ⟨h, _⟩ | ⟨a', len', cap', m, n, V, D, Pl, h, hb, hlc, hm, rfl, hx, hV⟩
  · simp only [Value.cells, List.cons.injEq, Value.slice.injEq, and_true] at h
    obtain ⟨rfl, rfl, rfl⟩ := h
    exact ⟨none, [], 0, rfl, .inl rfl, fun b hb => by cases hb⟩
  · simp only [Value.cells, List.cons.injEq, Value.slice.injEq, and_true] at h
    obtain ⟨rfl, rfl, rfl⟩ := h
    have hm' : len ≤ (if spare a'.block then cap else len) := by split <;> omega
    have hfl : ∀ i, i < len → ∃ b : Nat, V i = .int .u8 (b : Int) ∧ b < 256 := by
      intro i hi
      have := (hV i (by omega)).2
      obtain ⟨k, hk, _, h2⟩ := DataW.trod_int he this
      have h3 : (0 : Int) ≤ k ∧ k ≤ 255 := by
        simp only [Lit.wf, Bool.and_eq_true, decide_eq_true_eq] at h2
        exact ⟨h2.1, h2.2⟩
      simp only [List.cons.injEq, and_true] at hk
      refine ⟨k.toNat, ?_, ?_⟩
      · rw [hk]
        rw [Int.toNat_of_nonneg h3.1]
      · omega
    obtain ⟨B, hB⟩ := choose_lt hfl
    refine ⟨some a', (List.range len).map (fun i => ((B i : Nat) : Int)), cap, by simp, ?_, ?_⟩
    · by_cases h0 : len = 0
      · subst h0; exact .inl rfl
      · have hsp : a'.spot = none := by
          have := (hV 0 (by omega)).1
          simpa [Addr.add] using World.cell?_spot this
        obtain ⟨bk, off, spot⟩ := a'
        simp only at hsp
        subst hsp
        refine .inr ⟨_, rfl, rfl, fun i u hu => ?_⟩
        unfold bl at hu
        simp only [List.getElem?_map, Option.map_eq_some_iff, List.map_map] at hu
        obtain ⟨j, hj, rfl⟩ := hu
        obtain ⟨hlt, rfl⟩ := List.getElem?_eq_some_iff.1 hj
        simp only [List.length_range] at hlt
        have h1 := (hV i (by omega)).1
        rw [add_plain] at h1
        refine ⟨V i, h1, ?_⟩
        rw [(hB i hlt).1]
        simp [cn, cn1, cn0]
    · intro x hx
      obtain ⟨i, hi, rfl⟩ := List.mem_map.1 hx
      have := (hB i (by simpa using hi)).2
      omega
end
end Go.Proofs.YtmecikeaogjmpaaDoor

