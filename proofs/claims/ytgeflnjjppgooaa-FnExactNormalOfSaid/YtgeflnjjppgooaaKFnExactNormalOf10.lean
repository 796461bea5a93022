/- Own texts of this claim, merged: Zg, Zh, Zi, QWShared, QWSharedL, Ye. -/
import Derived.KernelRfl
import Derived.Test.YtgeflnjjppgooaaKFnExactNormalOf9
namespace Go.Proofs.Ytgeflnjjppgooaa.Q
open Go Go.Conc Go.RowKit Go.Proofs.Ytgeflnjjppgooaa.Y Go.Conc.Lib Go.ConcR.Gen Go.ConcN.Gen
attribute [-instance] phC
attribute [local instance] noPh
set_option maxRecDepth 20000
set_option linter.unusedSimpArgs false
set_option linter.unusedVariables false

theorem frz_cell (v : World) (a : Addr) : (frz v).cell? a = v.cell? a := by
  simp only [World.cell?, frz_get]
  cases v.heap[a.block]? with
  | none => rfl
  | some o => cases o <;> rfl
theorem kill_cell {S : Nat → Bool} {v : World} {a : Addr} (h : S a.block = false) : (kill S v).cell? a = v.cell? a := by
  simp only [World.cell?, kill_get]
  cases v.heap[a.block]? with
  | none => rfl
  | some o => simp [h]
theorem Cl.of_cells {w w' : World} {a : Option Addr} {us : List Value} (h : Cl w a us) (hc : ∀ p, a = some p → ∀ k, w'.cell? ⟨p.block, k, none⟩ = w.cell? ⟨p.block, k, none⟩) : Cl w' a us := by
  rcases h with h | ⟨p, h1, h2, h3⟩
  · exact .inl h
  · refine .inr ⟨p, h1, h2, fun i u hu => ?_⟩
    obtain ⟨v, hv, hu⟩ := h3 i u hu
    exact ⟨v, (hc p h1 _).trans hv, hu⟩
theorem Cl.frz {v : World} {a : Option Addr} {us : List Value} (h : Cl v a us) : Cl (Y.frz v) a us := Cl.of_cells h fun p _ k => frz_cell v _
theorem WC.Kn.frz {C : WC} {v : World} (h : C.Kn v) : C.Kn (Y.frz v) := ⟨Cl.frz h.h1, Cl.frz h.h2, Cl.frz h.h3, Cl.frz h.h4, Cl.frz h.hA, fun i hi => Cl.frz (h.hR i hi), Cl.frz h.hW, Cl.frz h.hG⟩

noncomputable def J17 : Code := match Try.f17.body with | some (.seq _ (.seq _ (.seq _ (.seq _ x)))) => x | _ => .skip
noncomputable def LB17 : Code := match J17 with | .seq (.seq _ (.block _ (.loop L))) _ => L | _ => .skip
noncomputable def R5 : Code := match J17 with | .seq (.seq x _) _ => x | _ => .skip
noncomputable def R10 : Code := match J17 with | .seq _ (.seq x _) => x | _ => .skip
noncomputable def Rest17 : Code := match J17 with | .seq _ (.seq _ x) => x | _ => .skip
noncomputable def R6 : Code := match LB17 with | .seq x _ => x | _ => .skip
noncomputable def R7 : Code := match LB17 with | .seq _ (.seq _ (.seq (.block _ (.seq x _)) _)) => x | _ => .skip
noncomputable def R8 : Code := match LB17 with | .seq _ (.seq _ (.seq (.block _ (.seq _ x)) _)) => x | _ => .skip
noncomputable def R9 : Code := match LB17 with | .seq _ (.seq _ (.seq _ x)) => x | _ => .skip
noncomputable def C17 : Operand := match LB17 with | .seq _ (.seq (.cond c _ _) _) => c | _ => .tmp 0
theorem C17_is : C17 = .tmp 45 := rfl

def WC.senv (C : WC) (Wg x1 i : Nat) : Env := [(44, .int .i64 (i : Int)), (43, .int .i64 (C.n : Int)), (11, .pointer (some (adr (some ⟨Wg, 0, none⟩) 0))), (3, .pointer (some (adr (some ⟨C.q1, 0, none⟩) 0))), (5, .pointer (some (adr (some ⟨C.q2, 0, none⟩) 0))), (9, .pointer (some (adr (some ⟨C.q3, 0, none⟩) 0))), (10, .pointer (some (adr (some ⟨C.q4, 0, none⟩) 0))), (1, .float .f32 x1)]
section
variable {C : WC} {Wg x1 i : Nat} {v : World}
theorem head17 : V Try.prog 104 v [] (C.senv Wg x1 i) R6 (fun e a' w' => e = .normal ∧ Models 104 ((45, .bool (decide ((i : Int) < (C.n : Int)))) :: C.senv Wg x1 i) a' ∧ Below v.heap.size v w') := by
  refine V.region ?_
  refine VL.r (.inl rfl) rfl (by decide) (yr_icmp rfl (.inr (.inr (.inl rfl))) rfl rfl) ?_
  exact VL.nil fun a' w' ha hw => ⟨rfl, ha, hw.below⟩
theorem var17 : V Try.prog 104 v [] (C.senv Wg x1 i) R7 (fun e a' w' => e = .normal ∧ ∃ q0, Models 104 ((12, .pointer (some (adr (some ⟨q0, 0, none⟩) 0))) :: C.senv Wg x1 i) a' ∧ Hp v [⟨some ⟨q0, 0, none⟩, [.int .i64 (i : Int)], 1, 3⟩] w') := by
  refine V.region ?_
  refine VL.r (.inl rfl) rfl (by decide) (yr_move rfl rfl) ?_
  refine VL.new1 (.inl rfl) rfl (by decide) (yn_alloc (z := .int .i64 0) (cs := [.int .i64 0]) rfl (by kernel_rfl) rfl) ?_
  intro q0
  refine VL.s (.inl rfl) rfl (yc_store (t := 3) (z := 1) rfl (by kernel_rfl) rfl rfl UpdF.here (.inl ⟨rfl, rfl⟩) rfl (by decide) (by decide) rfl) ?_
  intro _
  exact VL.nil fun a' w' ha hw => ⟨rfl, q0, ha.mono (Cov.get (.cons rfl (.cons rfl (.cons rfl (.cons rfl (.cons rfl (.cons rfl (.cons rfl (.cons rfl (.cons rfl .nil)))))))))), hw⟩
theorem next17 (hi : i < 1000) : V Try.prog 104 v [] (C.senv Wg x1 i) R9 (fun e a' w' => e = .normal ∧ Models 104 (C.senv Wg x1 (i + 1)) a' ∧ Below v.heap.size v w') := by
  refine V.region ?_
  refine VL.r (.inl rfl) rfl (by decide) (yr_int rfl rfl rfl (.inl ⟨rfl, wrap_in (by omega)⟩)) ?_
  refine VL.r (.inl rfl) rfl (by decide) (yr_move rfl rfl) ?_
  exact VL.nil fun a' w' ha hw => ⟨rfl, ha.mono (Cov.get (.cons rfl (.cons rfl (.cons rfl (.cons rfl (.cons rfl (.cons rfl (.cons rfl (.cons rfl .nil))))))))), hw.below⟩
end
/-- A function value as an operation's operand, exactly. -/
theorem Models.exact {n : Nat} {E : Env} {a : Act} (h : Models n E a) {t : Nat} {p : Option Addr} (ht : E.get t = some (.pointer p)) : a.eval (.tmp t) = .pointer p := by
  obtain ⟨v', g1, g2⟩ := h.get t _ ht
  simp [Act.eval, g1, cn_pointer g2]
theorem cell_ptr {w : World} {b : Nat} {p : Option Addr} (h : Cl w (some ⟨b, 0, none⟩) [.pointer p]) : w.cell? ⟨b, 0, none⟩ = some (.pointer p) := by
  obtain ⟨v, h1, h2⟩ := h.cell (k := 0) rfl
  rw [cn_pointer h2] at h1; exact h1
theorem cell_fn {w : World} {b : Nat} {f : Fn} {x y : Array Value} (h : Cl w (some ⟨b, 0, none⟩) [.func f x y]) : w.cell? ⟨b, 0, none⟩ = some (.func f x y) := by
  obtain ⟨v, h1, h2⟩ := h.cell (k := 0) rfl
  rw [cn_func h2] at h1; exact h1

theorem early3 {P : Program} {S : Goroutine → World → Prop} {v : World} : Early P (fun g => Go3 P true S g v) := fun g g' hs h hn => .ctl hs h hn
section
variable {C : WC} {D : Sc} {Wg x1 : Nat} {K : Goroutine → World → Prop} {b : Frame} {k : List Item} {cs : List Frame}
abbrev SP (D : Sc) (K : Goroutine → World → Prop) (r : Nat) : Goroutine → World → Prop := fun g v => Go3 Try.prog true (SpStop Try.prog D K r) g v
/-- A round: one worker more. -/
theorem spawn17 (H : C.Ok) (hk : b.kind ≠ .early) (hD : D.ty = lnk.tWg) (hW : D.Wg = Wg) (hn : D.n = C.n) (hown : ∀ i j, j < C.nb → j % C.n = i → D.own i ⟨C.bA, j, none⟩ ∧ D.own i ⟨C.bB, j, none⟩) (hfin : ∀ i σ v k, C.nb ≤ k → C.Got i k σ v → D.fin i σ v)
    {r : Nat} (hr : r + 1 ≤ C.n) {a : Act} {v : World} (ha : Models 104 (C.senv Wg x1 (C.n - (r + 1))) a) (hK : C.Kn v)
    (hnext : ∀ a v, Models 104 (C.senv Wg x1 (C.n - r)) a → C.Kn v → SP D K r (G (b.at a (.inLoop LB17 :: .inBlock 0 :: k)) cs) v) :
    SP D K (r + 1) (G (b.at a (.code (.seq (.block 1 (.seq R7 R8)) R9) :: .inLoop LB17 :: .inBlock 0 :: k)) cs) v := by
  refine .ctl rfl (fun _ => stepG_seq) ?_
  refine .ctl rfl (fun _ => stepG_block) ?_
  refine .ctl rfl (fun _ => stepG_seq) ?_
  refine (var17 a v ha (Hp.refl v)) true _ _ _ _ hk ?_
  rintro e a1 v1 ⟨rfl, q0, m1, hp1⟩
  refine .ctl rfl (fun _ => stepG_region) ?_
  have t12 := Models.exact m1 (t := 12) rfl
  have t11 := Models.exact m1 (t := 11) rfl
  have t3 := Models.exact m1 (t := 3) rfl
  have t5 := Models.exact m1 (t := 5) rfl
  have t9 := Models.exact m1 (t := 9) rfl
  have t10 := Models.exact m1 (t := 10) rfl
  refine go_pure (C.fnv q0) rfl rfl hk (frop_of (by kernel_rfl) _ fun _ => rfl) (fun v2 hx => ?_) ?_
  · simp [execOp, Instr.makeFunc, t12, t3, t5, t9, t10, adr]
  have m2 : Models 104 ((47, C.fnv q0) :: (12, .pointer (some (adr (some ⟨q0, 0, none⟩) 0))) :: C.senv Wg x1 (C.n - (r + 1))) (a1.put (some 47) (C.fnv q0)) := m1.put (by decide) rfl
  show Go3 _ _ _ (G (b.at (a1.put (some 47) (C.fnv q0)) _) _) _
  generalize a1.put (some 47) (C.fnv q0) = a2 at m2 ⊢
  have u11 := Models.exact m2 (t := 11) rfl
  have u47 : a2.eval (.tmp 47) = C.fnv q0 := by
    obtain ⟨v', g1, g2⟩ := m2.get 47 _ rfl
    simp [Act.eval, g1, cn_func g2]
  refine go_in #[.pointer (some ⟨Wg, 0, none⟩), C.fnv q0] Try.func45 rfl rfl rfl hk (frop_of (by kernel_rfl) _ fun _ => rfl) (fun v2 hx => ?_) ?_
  · simp [Act.eval, adr] at u11 u47
    simp [execOp, resolve, u11, u47, adr, Deferred.ofValue, invoke, callFunc, Act.eval, Try.func45, Try.f45]
  refine .ctl rfl (fun _ => stepG_seq) ?_
  have hm : Models 7 (argsFrom 0 [.pointer (some ⟨Wg, 0, none⟩), C.fnv q0]) { tmps := #[.pointer (some ⟨Wg, 0, none⟩), C.fnv q0] ++ Array.replicate (7 - #[Value.pointer (some ⟨Wg, 0, none⟩), C.fnv q0].size) undef, defers := [] } := models_args rfl (Nat.le_of_ble_eq_true rfl)
  have hV : V Try.prog 7 v [⟨some ⟨q0, 0, none⟩, [.int .i64 ((C.n - (r + 1) : Nat) : Int)], 1, 3⟩] (argsFrom 0 [.pointer (some ⟨Wg, 0, none⟩), C.fnv q0])
      (match Try.f45.body with | some (.seq x _) => x | _ => .skip) (fun e a' w' => e = .normal ∧ ∃ b2 b3, Models 7 [(2, .pointer (some (adr (some ⟨b2, 0, none⟩) 0))), (3, .pointer (some (adr (some ⟨b3, 0, none⟩) 0)))] a' ∧
        Hp v [⟨some ⟨b3, 0, none⟩, [C.fnv q0], 1, 1⟩, ⟨some ⟨b2, 0, none⟩, [.pointer (some ⟨Wg, 0, none⟩)], 1, 98⟩, ⟨some ⟨q0, 0, none⟩, [.int .i64 ((C.n - (r + 1) : Nat) : Int)], 1, 3⟩] w') := by
    refine V.region ?_
    refine VL.new1 (.inl rfl) rfl (by decide) (yn_box rfl rfl (.inl ⟨rfl, rfl⟩)) ?_
    intro b2
    refine VL.new1 (.inl rfl) rfl (by decide) (yn_box rfl rfl (.inl ⟨rfl, rfl⟩)) ?_
    intro b3
    exact VL.nil fun a' w' ha hw => ⟨rfl, b2, b3, ha.mono (Cov.get (.cons rfl (.cons rfl .nil))), hw⟩
  refine (hV _ v1 hm hp1) true _ _ _ _ (by decide) ?_
  rintro e a3 v3 ⟨rfl, b2, b3, m3, hp3⟩
  refine .ctl rfl (fun _ => stepG_seq) ?_
  refine .ctl rfl (fun _ => stepG_region) ?_
  have w2 := Models.exact m3 (t := 2) rfl
  have c2 := cell_ptr ((hp3.ents _ (List.mem_cons_of_mem _ List.mem_cons_self)).cl)
  refine go_pure (.pointer (some ⟨Wg, 0, none⟩)) rfl rfl (by decide) (frop_of (by kernel_rfl) _ fun _ => rfl) (fun v4 hx => ?_) ?_
  · have h9 := (hx.cell (World.block_lt_of_cell c2)).trans c2
    simp [execOp, w2, adr, Instr.loadAt, Instr.sureAddr, loadVar, Try.isAgg98, h9]
  have m4 : Models 7 ((4, .pointer (some ⟨Wg, 0, none⟩)) :: [(2, .pointer (some (adr (some ⟨b2, 0, none⟩) 0))), (3, .pointer (some (adr (some ⟨b3, 0, none⟩) 0)))]) (a3.put (some 4) (.pointer (some ⟨Wg, 0, none⟩))) := m3.put (by decide) rfl
  show Go3 _ _ _ (G ((base 45).at (a3.put (some 4) (.pointer (some ⟨Wg, 0, none⟩))) _) _) _
  generalize a3.put (some 4) (.pointer (some ⟨Wg, 0, none⟩)) = a4 at m4 ⊢
  have u4 := Models.exact m4 (t := 4) rfl
  refine go_in (c := body_add lnk) #[.pointer (some ⟨Wg, 0, none⟩), .int .i64 1] lib.f_add rfl rfl rfl (by decide) (frop_of (by kernel_rfl) _ fun _ => rfl) (fun v4 hx => ?_) ?_
  · simp [Act.eval] at u4
    simp [execOp, resolve, u4, Deferred.ofValue, invoke, callFunc, Act.eval, lib.f_add, addFn]
  rw [show (addFn lnk).ntmps = 117 from rfl]
  walk_nrm
  refine .stop fun v5 hx5 => ⟨rfl, ?_⟩
  rw [hD, hW]
  refine addM lib early3 ?_
  have hp5 := hp3.ext hx5
  refine .ctl rfl (fun _ => stepG_region_end) ?_
  refine .ctl rfl (fun _ => stepG_region) ?_
  have m5 : Models 7 ((5, .tuple #[]) :: (4, .pointer (some ⟨Wg, 0, none⟩)) :: [(2, .pointer (some (adr (some ⟨b2, 0, none⟩) 0))), (3, .pointer (some (adr (some ⟨b3, 0, none⟩) 0)))]) (a4.put (some 5) (.tuple #[])) := m4.put (by decide) (by simp [cn])
  show Go3 _ _ _ (G ((base 45).at (a4.put (some 5) (.tuple #[])) _) _) _
  generalize a4.put (some 5) (.tuple #[]) = a5 at m5 ⊢
  have y2 := Models.exact m5 (t := 2) rfl
  have y3 := Models.exact m5 (t := 3) rfl
  refine go_pure (fnV 73 #[.pointer (some ⟨b2, 0, none⟩), .pointer (some ⟨b3, 0, none⟩)]) rfl rfl (by decide) (frop_of (by kernel_rfl) _ fun _ => rfl) (fun v6 hx => ?_) ?_
  · simp [execOp, Instr.makeFunc, y2, y3, adr]
  have hd5 := m5.defers
  have m6 : (a5.put (some 6) (fnV 73 #[.pointer (some ⟨b2, 0, none⟩), .pointer (some ⟨b3, 0, none⟩)])).eval (.tmp 6) = fnV 73 #[.pointer (some ⟨b2, 0, none⟩), .pointer (some ⟨b3, 0, none⟩)] := by
    have : 6 < a5.tmps.size := by rw [m5.size]; decide
    simp [Act.eval, Act.put, this]
  have hd6 : (a5.put (some 6) (fnV 73 #[.pointer (some ⟨b2, 0, none⟩), .pointer (some ⟨b3, 0, none⟩)])).defers = [] := hd5
  show Go3 _ _ _ (G ((base 45).at (a5.put (some 6) (fnV 73 #[.pointer (some ⟨b2, 0, none⟩), .pointer (some ⟨b3, 0, none⟩)])) _) _) _
  generalize a5.put (some 6) (fnV 73 #[.pointer (some ⟨b2, 0, none⟩), .pointer (some ⟨b3, 0, none⟩)]) = a6 at m6 hd6 ⊢
  refine .stop fun v6 hx6 => ?_
  have hp6 := hp5.ext hx6
  have hK6 := (hK.below hp6.below).frz
  have hr1 : ∀ w, (execOp a6.eval { dst := none, op := .go ⟨.value (.tmp 6), #[], #[]⟩, type := 0, pos := "waitgroup.go:238", after := #[{ on := 0, ground := .data }], guard := none }).run Try.prog w = .ok (.spawn (goD ⟨b2, 0, none⟩ ⟨b3, 0, none⟩)) w := fun w => by
    simp [execOp, resolve, m6, Deferred.ofValue, dV]
  have hr2 : ∀ w, (execOp a6.eval { dst := none, op := .go ⟨.value (.tmp 6), #[], #[]⟩, type := 0, pos := "waitgroup.go:238", after := #[{ on := 0, ground := .data }], guard := none }).events Try.prog w #[] = #[] := fun w => by
    simp [execOp, resolve, m6, Deferred.ofValue, dV]
  have hl : ∀ w, listed Try.prog 45 a6 { dst := none, op := .go ⟨.value (.tmp 6), #[], #[]⟩, type := 0, pos := "waitgroup.go:238", after := #[{ on := 0, ground := .data }], guard := none } w = #[] := fun w => by
    unfold listed
    rw [hr2 w, seen_none]
  refine ⟨rfl, _, _, fun w _ => (stepG_spawn rfl rfl (by decide) (hr1 w) rfl).trans (congrArg (fun e => GStep.spawn _ _ _ e) (hl w)), rfl, works (q0 := q0) H (by omega) hD hW (hown _) (hfin _) hK6 ?_ ?_ ?_, ?_⟩
  · rw [hn]; exact Cl.frz (hp6.ents _ (List.mem_cons_of_mem _ (List.mem_cons_of_mem _ List.mem_cons_self))).cl
  · rw [frz_cell]; exact cell_ptr (hp6.ents _ (List.mem_cons_of_mem _ List.mem_cons_self)).cl
  · rw [frz_cell]; exact cell_fn (hp6.ents _ List.mem_cons_self).cl
  refine .ctl rfl (fun _ => stepG_region_end) ?_
  refine .ctl rfl (fun _ => stepG_end) ?_
  refine go_leave0 rfl hd6 Try.func45 rfl ?_
  refine .ctl rfl (fun _ => stepG_region_end) ?_
  refine .ctl rfl (fun _ => stepG_inBlock) ?_
  have m7 : Models 104 ((48, .tuple #[]) :: (47, C.fnv q0) :: (12, .pointer (some (adr (some ⟨q0, 0, none⟩) 0))) :: C.senv Wg x1 (C.n - (r + 1))) (a2.put (some 48) (.tuple #[])) := m2.put (by decide) (by simp [cn])
  have hn8 := H.hn8
  refine (next17 (i := C.n - (r + 1)) (by omega) _ (Y.frz v6) (m7.mono (Cov.get (.cons rfl (.cons rfl (.cons rfl (.cons rfl (.cons rfl (.cons rfl (.cons rfl (.cons rfl .nil)))))))))) (Hp.refl _)) true _ _ _ _ hk ?_
  rintro e a8 v8 ⟨rfl, m8, b8⟩
  rw [show C.n - (r + 1) + 1 = C.n - r by omega] at m8
  exact hnext a8 v8 m8 (hK6.below b8)
/-- The loop, and the wait. -/
theorem loop17 (H : C.Ok) (hk : b.kind ≠ .early) (hD : D.ty = lnk.tWg) (hW : D.Wg = Wg) (hn : D.n = C.n) (hown : ∀ i j, j < C.nb → j % C.n = i → D.own i ⟨C.bA, j, none⟩ ∧ D.own i ⟨C.bB, j, none⟩) (hfin : ∀ i σ v k, C.nb ≤ k → C.Got i k σ v → D.fin i σ v)
    {S : Goroutine → World → Prop} (hrest : ∀ a v', Models 104 (C.senv Wg x1 C.n) a → Join D v' → @Go3 phC Try.prog true S (G (b.at a (.code Rest17 :: k)) cs) v') :
    ∀ (r : Nat), r ≤ C.n → ∀ (a : Act) (v : World), Models 104 (C.senv Wg x1 (C.n - r)) a → C.Kn v → SP D (@Go3 phC Try.prog true S) r (G (b.at a (.code LB17 :: .inLoop LB17 :: .inBlock 0 :: .code (.seq R10 Rest17) :: k)) cs) v := by
  intro r
  induction r with
  | zero =>
    intro hr a v ha hK
    refine Go3.ctl (g' := G (b.at a (.code R6 :: .code (.seq (.cond C17 .skip (.exit 0)) (.seq (.block 1 (.seq R7 R8)) R9)) :: .inLoop LB17 :: .inBlock 0 :: .code (.seq R10 Rest17) :: k)) cs) rfl (fun _ => stepG_seq) ?_
    refine (head17 a v ha (Hp.refl v)) true _ _ _ _ hk ?_
    rintro e a1 v1 ⟨rfl, m1, b1⟩
    refine .ctl rfl (fun _ => stepG_seq) ?_
    have e45 : a1.eval C17 = .bool false := by
      obtain ⟨v', g1, g2⟩ := m1.get 45 _ rfl
      rw [decide_eq_false (by omega)] at g2
      rw [C17_is]
      simp [Act.eval, g1, cn_bool g2]
    refine .ctl rfl (fun _ => stepG_cond e45) ?_
    refine .ctl rfl (fun _ => stepG_exit rfl) ?_
    refine .ctl rfl (fun _ => stepG_seq) ?_
    refine .ctl rfl (fun _ => stepG_region) ?_
    have m2 : Models 104 (C.senv Wg x1 (C.n - 0)) a1 := m1.mono (Cov.get (.cons rfl (.cons rfl (.cons rfl (.cons rfl (.cons rfl (.cons rfl (.cons rfl (.cons rfl .nil)))))))))
    have u11 := Models.exact m2 (t := 11) rfl
    refine go_in (c := body_wait lnk) #[.pointer (some ⟨Wg, 0, none⟩)] lib.f_wait rfl rfl rfl hk (frop_of (by kernel_rfl) _ fun _ => rfl) (fun v4 hx => ?_) ?_
    · simp [Act.eval] at u11
      simp [execOp, resolve, u11, adr, Deferred.ofValue, invoke, callFunc, Act.eval, lib.f_wait, waitFn]
    rw [show (waitFn lnk).ntmps = 84 from rfl]
    walk_nrm
    refine .stop fun v5 hx5 => ⟨rfl, ?_⟩
    rw [hD, hW]
    refine waitM lib (fun g g' hs h hn v' hJ => @Go3.ctl phC _ _ _ _ _ _ hs h (hn v' hJ)) fun v' hJ => ?_
    refine @Go3.ctl phC _ _ _ _ _ _ rfl (fun _ => stepG_region_end) (hrest _ v' ?_ hJ)
    have m3 : Models 104 ((50, .tuple #[]) :: C.senv Wg x1 (C.n - 0)) (a1.put (some 50) (.tuple #[])) := m2.put (by decide) (by simp [cn])
    exact m3.mono (Cov.get (.cons rfl (.cons rfl (.cons rfl (.cons rfl (.cons rfl (.cons rfl (.cons rfl (.cons rfl .nil)))))))))
  | succ r ih =>
    intro hr a v ha hK
    refine Go3.ctl (g' := G (b.at a (.code R6 :: .code (.seq (.cond C17 .skip (.exit 0)) (.seq (.block 1 (.seq R7 R8)) R9)) :: .inLoop LB17 :: .inBlock 0 :: .code (.seq R10 Rest17) :: k)) cs) rfl (fun _ => stepG_seq) ?_
    refine (head17 a v ha (Hp.refl v)) true _ _ _ _ hk ?_
    rintro e a1 v1 ⟨rfl, m1, b1⟩
    refine .ctl rfl (fun _ => stepG_seq) ?_
    have e45 : a1.eval C17 = .bool true := by
      obtain ⟨v', g1, g2⟩ := m1.get 45 _ rfl
      rw [decide_eq_true (by omega)] at g2
      rw [C17_is]
      simp [Act.eval, g1, cn_bool g2]
    refine .ctl rfl (fun _ => stepG_cond e45) ?_
    refine .ctl rfl (fun _ => stepG_skip) ?_
    refine spawn17 H hk hD hW hn hown hfin hr (m1.mono (Cov.get (.cons rfl (.cons rfl (.cons rfl (.cons rfl (.cons rfl (.cons rfl (.cons rfl (.cons rfl .nil)))))))))) (hK.below b1) fun a2 v2 m2 hK2 => ?_
    exact .ctl rfl (fun _ => stepG_inLoop) (ih (by omega) a2 v2 m2 hK2)
end
end Go.Proofs.Ytgeflnjjppgooaa.Q


namespace Go.Proofs.Ytgeflnjjppgooaa.Q
open Go Go.Conc Go.RowKit Go.Proofs.Ytgeflnjjppgooaa.Y Go.Conc.Lib Go.ConcR.Gen Go.ConcN.Gen
set_option maxRecDepth 20000
set_option linter.unusedSimpArgs false
set_option linter.unusedVariables false

theorem ent_exact {B b cap : Nat} {w : World} {us : List Value} {ty : TypeId} (h : Ent.at B w ⟨some ⟨b, 0, none⟩, us, cap, ty⟩) (hc : cap ≠ 0) (ht : ty ≠ 5) :
    B ≤ b ∧ ∃ c, w.heap[b]? = some (.cells c ty) ∧ c.size = cap ∧ ∀ (i : Nat) (u : Value), us[i]? = some u → ∃ v, c[i]? = some v ∧ cn v = u := by
  rcases h with h | ⟨b', c, h1, h2, ⟨z, h3, h4⟩, h5, _, h6⟩
  · exact absurd h.2 hc
  · cases h1
    rcases h4 with rfl | ⟨h4, _⟩
    · exact ⟨h2, c, h3, h5, h6⟩
    · exact absurd h4 ht
theorem Cl.kill {v : World} {S : Nat → Bool} {a : Option Addr} {us : List Value} (h : Cl v a us) (hS : ∀ p, a = some p → us ≠ [] → S p.block = false) : Cl (Y.kill S v) a us := by
  rcases h with h | ⟨p, h1, h2, h3⟩
  · exact .inl h
  · by_cases hu : us = []
    · exact .inl hu
    · refine .inr ⟨p, h1, h2, fun i u hi => ?_⟩
      obtain ⟨x, hx, hc⟩ := h3 i u hi
      exact ⟨x, (kill_cell (a := ⟨p.block, p.off + i, none⟩) (hS p h1 hu)).trans hx, hc⟩
theorem Cl.root_lt {w : World} {a : Option Addr} {us : List Value} (h : Cl w a us) {p : Addr} (hp : a = some p) (hu : us ≠ []) : p.block < w.heap.size := by
  rcases h with h | ⟨q, h1, h2, h3⟩
  · exact absurd h hu
  · rw [hp] at h1; cases h1
    cases us with
    | nil => exact absurd rfl hu
    | cons u us =>
      obtain ⟨x, hx, _⟩ := h3 0 u rfl
      exact World.block_lt_of_cell (p := ⟨p.block, p.off + 0, none⟩) hx
/-- .. in any world in which its block stands as it stood. -/
theorem Cl.stay {v w : World} {a : Option Addr} {us : List Value} (h : Cl v a us) (hS : ∀ p, a = some p → us ≠ [] → w.heap[p.block]? = v.heap[p.block]?) : Cl w a us := by
  rcases h with h | ⟨p, h1, h2, h3⟩
  · exact .inl h
  · by_cases hu : us = []
    · exact .inl hu
    · refine .inr ⟨p, h1, h2, fun i u hi => ?_⟩
      obtain ⟨x, hx, hc⟩ := h3 i u hi
      exact ⟨x, by rw [World.cell?, hS p h1 hu]; exact hx, hc⟩

section
variable (C : WC)
def WC.rA : List (List Nat) := (List.range C.nb).map C.ka
def WC.rB : List (List Nat) := (List.range C.nb).map C.kb
/-- Behind the join. -/
structure WC.Done (v : World) (fA fB : Nat → Option Addr × Nat) : Prop where
  kn : C.Kn v
  cA : Cl v (some ⟨C.bA, 0, none⟩) (hd fA C.rA)
  cB : Cl v (some ⟨C.bB, 0, none⟩) (hd fB C.rB)
  rwA : Rws v fA C.rA
  rwB : Rws v fB C.rB
def WC.ents (Wg : Nat) : List Ent :=
  [⟨some ⟨Wg, 0, none⟩, [.int .u64 0, .int .u32 0], 2, 76⟩, ⟨some ⟨C.q4, 0, none⟩, [.slice (some ⟨C.bB, 0, none⟩) C.nb C.nb], 1, 22⟩, ⟨some ⟨C.q3, 0, none⟩, [.slice (some ⟨C.bA, 0, none⟩) C.nb C.nb], 1, 22⟩,
   ⟨some ⟨C.bB, 0, none⟩, cycle [Value.slice none 0 0] C.nb, C.nb * 1, 23⟩, ⟨some ⟨C.bA, 0, none⟩, cycle [Value.slice none 0 0] C.nb, C.nb * 1, 23⟩, ⟨some ⟨C.q2, 0, none⟩, [.int .i64 (C.n : Int)], 1, 2⟩,
   ⟨some ⟨C.q1, 0, none⟩, [.slice C.a C.xss.length C.c, .slice C.a1 C.ws.length C.c1, .slice C.a2 C.gs.length C.c2], 3, 30⟩]
def WC.sc (Wg : Nat) (v : World) : Sc where
  ty := lnk.tWg
  ety := 22
  c := C.q3
  x := .slice (some ⟨C.bA, 0, none⟩) C.nb C.nb
  Wg := Wg
  n := C.n
  vb := v
  arr := fun b => b == C.bA || b == C.bB
  own := fun i a => ∃ j, j < C.nb ∧ j % C.n = i ∧ (a = ⟨C.bA, j, none⟩ ∨ a = ⟨C.bB, j, none⟩)
  fin := fun i σ v => ∃ k, C.nb ≤ k ∧ C.Got i k σ v
end
section
variable {C : WC} {Wg : Nat} {w0 v : World}
/-- Where the call's own blocks lie. -/
structure WC.Own (C : WC) (Wg : Nat) (w0 v : World) : Prop where
  lo : ∀ b ∈ [Wg, C.q4, C.q3, C.bB, C.bA, C.q2, C.q1], w0.heap.size ≤ b
  ne : [Wg, C.q4, C.q3, C.bB, C.bA, C.q2, C.q1].Nodup
  wg : v.heap[Wg]? = some (.cells #[.int .u64 0, .int .u32 0] 76)
  c3 : v.heap[C.q3]? = some (.cells #[.slice (some ⟨C.bA, 0, none⟩) C.nb C.nb] 22)
  bA : ∃ c, v.heap[C.bA]? = some (.cells c 23) ∧ c.size = C.nb
  bB : ∃ c, v.heap[C.bB]? = some (.cells c 23) ∧ c.size = C.nb
theorem nb_pos (H : C.Ok) : 0 < C.nb := by
  have := H.hval.1
  unfold WC.nb blocksN
  omega
theorem WC.own_of (H : C.Ok) (hw : Hp w0 (C.ents Wg) v) : C.Own Wg w0 v := by
  have hnb := nb_pos H
  have hap := hw.apart
  have he := hw.ents
  simp only [WC.ents, List.pairwise_cons, List.mem_cons, forall_eq_or_imp, List.not_mem_nil, false_imp_iff, implies_true, and_true, List.Pairwise.nil, forall_eq] at hap he
  obtain ⟨g1, g2, g3, g4, g5, g6, g7⟩ := he
  have k1 := ent_exact g1 (by decide) (by decide)
  have k2 := ent_exact g2 (by decide) (by decide)
  have k3 := ent_exact g3 (by decide) (by decide)
  have k4 := ent_exact g4 (by omega) (by decide)
  have k5 := ent_exact g5 (by omega) (by decide)
  have k6 := ent_exact g6 (by decide) (by decide)
  have k7 := ent_exact g7 (by decide) (by decide)
  have hne : ∀ {b b' : Nat} {us us' : List Value} {n n' : Nat} {t t' : TypeId}, Ent.apart ⟨some ⟨b, 0, none⟩, us, n, t⟩ ⟨some ⟨b', 0, none⟩, us', n', t'⟩ → n ≠ 0 → n' ≠ 0 → b ≠ b' := fun h h1 h2 => h h1 h2 _ _ rfl rfl
  obtain ⟨⟨a12, a13, a14, a15, a16, a17⟩, ⟨a23, a24, a25, a26, a27⟩, ⟨a34, a35, a36, a37⟩, ⟨a45, a46, a47⟩, ⟨a56, a57⟩, a67⟩ := hap
  refine ⟨fun b hb => ?_, ?_, ?_, ?_, ?_, ?_⟩
  · simp only [List.mem_cons, List.not_mem_nil, or_false] at hb
    rcases hb with rfl | rfl | rfl | rfl | rfl | rfl | rfl
    · exact k1.1
    · exact k2.1
    · exact k3.1
    · exact k4.1
    · exact k5.1
    · exact k6.1
    · exact k7.1
  · simp only [List.nodup_cons, List.mem_cons, List.not_mem_nil, or_false, not_or, not_false_eq_true, List.nodup_nil, and_true]
    exact ⟨⟨hne a12 (by omega) (by omega), hne a13 (by omega) (by omega), hne a14 (by omega) (by omega), hne a15 (by omega) (by omega), hne a16 (by omega) (by omega), hne a17 (by omega) (by omega)⟩, ⟨hne a23 (by omega) (by omega), hne a24 (by omega) (by omega), hne a25 (by omega) (by omega), hne a26 (by omega) (by omega), hne a27 (by omega) (by omega)⟩, ⟨hne a34 (by omega) (by omega), hne a35 (by omega) (by omega), hne a36 (by omega) (by omega), hne a37 (by omega) (by omega)⟩, ⟨hne a45 (by omega) (by omega), hne a46 (by omega) (by omega), hne a47 (by omega) (by omega)⟩, ⟨hne a56 (by omega) (by omega), hne a57 (by omega) (by omega)⟩, hne a67 (by omega) (by omega)⟩
  · obtain ⟨_, c, h1, h2, h3⟩ := k1
    have e : c = #[.int .u64 0, .int .u32 0] := by
      obtain ⟨x, hx, hc⟩ := h3 0 _ rfl
      obtain ⟨y, hy, hd⟩ := h3 1 _ rfl
      rw [cn_int hc] at hx
      rw [cn_int hd] at hy
      apply Array.ext_getElem?
      intro i
      match i with
      | 0 => exact hx
      | 1 => exact hy
      | i + 2 => rw [Array.getElem?_eq_none (by omega), Array.getElem?_eq_none (by simp)]
    rw [h1, e]
  · obtain ⟨_, c, h1, h2, h3⟩ := k3
    have e : c = #[.slice (some ⟨C.bA, 0, none⟩) C.nb C.nb] := by
      obtain ⟨x, hx, hc⟩ := h3 0 _ rfl
      rw [cn_slice hc] at hx
      apply Array.ext_getElem?
      intro i
      match i with
      | 0 => exact hx
      | i + 1 => rw [Array.getElem?_eq_none (by omega), Array.getElem?_eq_none (by simp)]
    rw [h1, e]
  · obtain ⟨_, c, h1, h2, _⟩ := k5
    exact ⟨c, h1, by omega⟩
  · obtain ⟨_, c, h1, h2, _⟩ := k4
    exact ⟨c, h1, by omega⟩
end
end Go.Proofs.Ytgeflnjjppgooaa.Q


namespace Go.Proofs.Ytgeflnjjppgooaa.Q
open Go Go.Conc Go.RowKit Go.Proofs.Ytgeflnjjppgooaa.Y Go.Conc.Lib Go.ConcR.Gen Go.ConcN.Gen
set_option maxRecDepth 20000
set_option linter.unusedSimpArgs false
set_option linter.unusedVariables false

section
variable {C : WC} {Wg : Nat} {w0 v : World}
/-- What the workers look at lies in no block that is theirs to write. -/
structure WC.Root (C : WC) (w0 : World) : Prop where
  hA : Cl w0 C.a (hd C.f C.xss)
  hR : Rws w0 C.f C.xss
  hW : Cl w0 C.a1 (fl C.ws)
  hG : Cl w0 C.a2 (fl C.gs)
theorem kn_of (R : C.Root w0) (hw : Hp w0 (C.ents Wg) v) : C.Kn v := by
  have he := hw.ents
  simp only [WC.ents, List.mem_cons, forall_eq_or_imp, List.not_mem_nil, false_imp_iff, implies_true, and_true, forall_eq] at he
  obtain ⟨g1, g2, g3, g4, g5, g6, g7⟩ := he
  exact ⟨g7.cl, g6.cl, g3.cl, g2.cl, R.hA.below hw.below, fun i hi => (R.hR i hi).below hw.below, R.hW.below hw.below, R.hG.below hw.below⟩
/-- Kn where all blocks but the group's and the two lists' stand as they stood. -/
theorem kn_stay (R : C.Root w0) (hb : Below w0.heap.size w0 v) (hO : C.Own Wg w0 v) (hK : C.Kn v) {P : World → Option Addr → List Value → Prop} {w : World} (hP : ∀ a us, Cl v a us → (∀ p, a = some p → us ≠ [] → p.block ≠ Wg ∧ p.block ≠ C.bA ∧ p.block ≠ C.bB) → Cl w a us) : C.Kn w := by
  have hlo := hO.lo
  have hne := hO.ne
  simp only [List.mem_cons, forall_eq_or_imp, List.not_mem_nil, false_imp_iff, implies_true, and_true, forall_eq] at hlo
  simp only [List.nodup_cons, List.mem_cons, List.not_mem_nil, or_false, not_or, not_false_eq_true, List.nodup_nil, and_true] at hne
  obtain ⟨l1, l2, l3, l4, l5, l6, l7⟩ := hlo
  obtain ⟨⟨a12, a13, a14, a15, a16, a17⟩, ⟨a23, a24, a25, a26, a27⟩, ⟨a34, a35, a36, a37⟩, ⟨a45, a46, a47⟩, ⟨a56, a57⟩, a67⟩ := hne
  have hroot : ∀ a us, Cl w0 a us → Cl v a us → Cl w a us := fun a us h0 h => hP a us h fun p hp hu => by
    have := Cl.root_lt h0 hp hu
    omega
  have hq : ∀ q us, q ≠ Wg → q ≠ C.bA → q ≠ C.bB → Cl v (some ⟨q, 0, none⟩) us → Cl w (some ⟨q, 0, none⟩) us := fun q us h1 h2 h3 h => hP _ us h fun p hp _ => by cases hp; exact ⟨h1, h2, h3⟩
  exact ⟨hq _ _ (Ne.symm a17) (Ne.symm a57) (Ne.symm a47) hK.h1, hq _ _ (Ne.symm a16) (Ne.symm a56) (Ne.symm a46) hK.h2, hq _ _ (Ne.symm a13) a35 a34 hK.h3, hq _ _ (Ne.symm a12) a25 a24 hK.h4,
    hroot _ _ R.hA hK.hA, fun i hi => hroot _ _ (R.hR i hi) (hK.hR i hi), hroot _ _ R.hW hK.hW, hroot _ _ R.hG hK.hG⟩
theorem kn_begin (R : C.Root w0) (hb : Below w0.heap.size w0 v) (hO : C.Own Wg w0 v) (hK : C.Kn v) : C.Kn (begin_ (C.sc Wg v)) :=
  kn_stay (P := fun _ _ _ => True) R hb hO hK fun a us h hp => Cl.kill (Cl.frz h) fun p e hu => by
    obtain ⟨h1, h2, h3⟩ := hp p e hu
    simp [WC.sc, h1, h2, h3]
theorem phOk (H : C.Ok) (hO : C.Own Wg w0 v) : PhOk (C.sc Wg v) := by
  have hne := hO.ne
  simp only [List.nodup_cons, List.mem_cons, List.not_mem_nil, or_false, not_or, not_false_eq_true, List.nodup_nil, and_true] at hne
  obtain ⟨⟨a12, a13, a14, a15, a16, a17⟩, ⟨a23, a24, a25, a26, a27⟩, ⟨a34, a35, a36, a37⟩, ⟨a45, a46, a47⟩, ⟨a56, a57⟩, a67⟩ := hne
  obtain ⟨cA, hA1, hA2⟩ := hO.bA
  obtain ⟨cB, hB1, hB2⟩ := hO.bB
  have hnb := nb_pos H
  have harr : ∀ b, (C.sc Wg v).arr b = true → b = C.bA ∨ b = C.bB := fun b h => by simpa [WC.sc] using h
  have hcells : ∀ b, (C.sc Wg v).arr b = true → ∃ c, v.heap[b]? = some (.cells c 23) ∧ c.size = C.nb := fun b h => by
    rcases harr b h with rfl | rfl
    · exact ⟨cA, hA1, hA2⟩
    · exact ⟨cB, hB1, hB2⟩
  refine ⟨?_, hO.wg, fun b hb => ⟨?_, ?_⟩, fun b hb => ?_, fun i a ⟨j, h1, h2, h3⟩ => ?_, fun i i' a ⟨j, h1, h2, h3⟩ ⟨j', h1', h2', h3'⟩ => ?_, ⟨fun e => a13 e.symm, ?_, hO.c3⟩, fun i σ v v1 ⟨k, h1, h2⟩ hx => ⟨k, h1, h2.below hx⟩⟩
  · have := H.hn8
    show C.n < 2147483648
    omega
  · rcases harr b hb with rfl | rfl
    · exact fun e => a15 e.symm
    · exact fun e => a14 e.symm
  · obtain ⟨c, h1, _⟩ := hcells b hb
    exact ⟨c, _, h1⟩
  · obtain ⟨c, h1, h2⟩ := hcells b hb
    refine ⟨c, _, _, h1, ?_, ?_⟩
    · rintro rfl; simp at h2; omega
    · intro e; have := congrArg Prod.snd e; simp at this; omega
  · have hin : ∀ (b : Nat) (c : Array Value), v.heap[b]? = some (.cells c 23) → c.size = C.nb → ∃ y, v.cell? ⟨b, j, none⟩ = some y := fun b c g1 g2 => ⟨c[j], by simp [World.cell?, g1, g2, h1]⟩
    rcases h3 with rfl | rfl
    · exact ⟨by simp [WC.sc], rfl, hin _ _ hA1 hA2⟩
    · exact ⟨by simp [WC.sc], rfl, hin _ _ hB1 hB2⟩
  · have : j = j' := by
      rcases h3 with rfl | rfl <;> rcases h3' with e | e
      · exact congrArg Addr.off e
      · exact absurd (congrArg Addr.block e).symm a45
      · exact absurd (congrArg Addr.block e) a45
      · exact congrArg Addr.off e
    subst this
    exact h2.symm.trans h2'
  · simp only [WC.sc, Bool.or_eq_false_iff, beq_eq_false_iff_ne]
    exact ⟨a35, a34⟩
theorem N_pos (H : C.Ok) : 0 < C.N := by
  have := H.hval.2.2.2.2.2.2.1
  unfold WC.N
  omega
theorem ka_length (k : Nat) : (C.ka k).length = C.N * C.N := blockA_length _ _ _ _ _
theorem kb_length (k : Nat) : (C.kb k).length = C.N := blockB_length _ _ _ _ _ _
theorem rA_get {j : Nat} (h : j < C.nb) : C.rA.getD j [] = C.ka j := by simp [WC.rA, h]
theorem rB_get {j : Nat} (h : j < C.nb) : C.rB.getD j [] = C.kb j := by simp [WC.rB, h]
/-- An entry of a worker's lies behind the join as the worker left it. -/
theorem ent_join {vi v' : World} {x cap : Nat} {us : List Value} (h : Ent.at 0 vi ⟨some ⟨x, 0, none⟩, us, cap, 26⟩) (hc : cap ≠ 0) (hj : ∀ b, Liv vi b → v'.heap[b]? = vi.heap[b]?) : Cl v' (some ⟨x, 0, none⟩) us := by
  obtain ⟨_, c, h1, h2, _⟩ := ent_exact h hc (by decide)
  have hl : Liv vi x := ⟨c, _, _, h1, by rintro rfl; simp at h2; omega, fun e => by have := congrArg Prod.snd e; simp at this; omega⟩
  exact Cl.stay h.cl fun p hp _ => by cases hp; exact hj x hl
theorem done_of (H : C.Ok) (R : C.Root w0) (hb : Below w0.heap.size w0 v) (hO : C.Own Wg w0 v) (hK : C.Kn v) {v' : World} (hJ : Join (C.sc Wg v) v') : Below w0.heap.size w0 v' ∧ ∃ fA fB, C.Done v' fA fB := by
  have hN := N_pos H
  have hlo := hO.lo
  simp only [List.mem_cons, forall_eq_or_imp, List.not_mem_nil, false_imp_iff, implies_true, and_true, forall_eq] at hlo
  obtain ⟨l1, l2, l3, l4, l5, l6, l7⟩ := hlo
  have hsz : w0.heap.size ≤ v.heap.size := hb.size
  have hold : ∀ b, b < v.heap.size → b ≠ Wg → b ≠ C.bA → b ≠ C.bB → v'.heap[b]? = v.heap[b]? := fun b h1 h2 h3 h4 => hJ.old b h1 h2 (by simp [WC.sc, h3, h4])
  have hbv : Below w0.heap.size w0 v' := ⟨hJ.os.trans hb.os, hJ.tape.trans hb.tape, hJ.output.trans hb.output, Nat.le_trans hb.size hJ.size, fun k hk => (hold k (by omega) (by omega) (by omega) (by omega)).trans (hb.block k hk)⟩
  refine ⟨hbv, ?_⟩
  have hkn : C.Kn v' := kn_stay (P := fun _ _ _ => True) R hb hO hK fun a us h hp => Cl.stay h fun p e hu => by
    obtain ⟨h1, h2, h3⟩ := hp p e hu
    exact hold _ (Cl.root_lt h e hu) h1 h2 h3
  have hx : ∀ j, ∃ x1 x2, j < C.nb → v'.cell? ⟨C.bA, j, none⟩ = some (.slice (some ⟨x1, 0, none⟩) (C.N * C.N) (C.N * C.N)) ∧ v'.cell? ⟨C.bB, j, none⟩ = some (.slice (some ⟨x2, 0, none⟩) C.N C.N) ∧ Cl v' (some ⟨x1, 0, none⟩) (fl (C.ka j)) ∧ Cl v' (some ⟨x2, 0, none⟩) (fl (C.kb j)) := by
    intro j
    by_cases hj : j < C.nb
    · obtain ⟨σ, vi, ⟨k, hk, hg⟩, h2, h3⟩ := hJ.wk (j % C.n) (Nat.mod_lt _ H.hn)
      obtain ⟨x1, x2, m1, m2, e1, e2⟩ := hg.got j (by omega) hj rfl
      have hNN : C.N * C.N ≠ 0 := Nat.mul_ne_zero (by omega) (by omega)
      exact ⟨x1, x2, fun _ => ⟨h3 _ m1, h3 _ m2, ent_join e1 (by omega) h2, ent_join e2 (by omega) h2⟩⟩
    · exact ⟨0, 0, fun h => absurd h hj⟩
  refine ⟨fun j => (some ⟨(hx j).choose, 0, none⟩, C.N * C.N), fun j => (some ⟨(hx j).choose_spec.choose, 0, none⟩, C.N), hkn, ?_, ?_, fun j hj => ?_, fun j hj => ?_⟩
  · refine .inr ⟨_, rfl, rfl, fun j u hu => ?_⟩
    have hlt : j < C.nb := by have := (List.getElem?_eq_some_iff.1 hu).1; simpa [hd, WC.rA] using this
    rw [hd_get (by simpa [WC.rA] using hlt), rA_get hlt, ka_length] at hu
    cases hu
    have := ((hx j).choose_spec.choose_spec hlt).1
    exact ⟨_, by simpa using this, by simp [cn, cn1, cn0]⟩
  · refine .inr ⟨_, rfl, rfl, fun j u hu => ?_⟩
    have hlt : j < C.nb := by have := (List.getElem?_eq_some_iff.1 hu).1; simpa [hd, WC.rB] using this
    rw [hd_get (by simpa [WC.rB] using hlt), rB_get hlt, kb_length] at hu
    cases hu
    have := ((hx j).choose_spec.choose_spec hlt).2.1
    exact ⟨_, by simpa using this, by simp [cn, cn1, cn0]⟩
  · have hlt : j < C.nb := by simpa [WC.rA] using hj
    rw [rA_get hlt]
    exact ((hx j).choose_spec.choose_spec hlt).2.2.1
  · have hlt : j < C.nb := by simpa [WC.rB] using hj
    rw [rB_get hlt]
    exact ((hx j).choose_spec.choose_spec hlt).2.2.2
end

section
variable {C : WC} {Wg x1 : Nat} {w0 : World} {E : Env} {Q : Exit → Act → World → Prop}
def WC.penv (C : WC) (Wg x1 : Nat) : Env := [(11, .pointer (some (adr (some ⟨Wg, 0, none⟩) 0))), (3, .pointer (some (adr (some ⟨C.q1, 0, none⟩) 0))), (5, .pointer (some (adr (some ⟨C.q2, 0, none⟩) 0))), (9, .pointer (some (adr (some ⟨C.q3, 0, none⟩) 0))), (10, .pointer (some (adr (some ⟨C.q4, 0, none⟩) 0))), (1, .float .f32 x1)]
theorem fb2 : flatB Try.prog 2 = true := by kernel_rfl
theorem start17 : V Try.prog 104 w0 (C.ents Wg) (C.penv Wg x1) R5 (fun e a' w' => e = .normal ∧ Models 104 (C.senv Wg x1 0) a' ∧ Hp w0 (C.ents Wg) w') := by
  refine V.region ?_
  refine VL.q (.inl rfl) rfl (by decide) (yq_load rfl fb2 rfl (Sees.own (List.mem_cons_of_mem _ (List.mem_cons_of_mem _ (List.mem_cons_of_mem _ (List.mem_cons_of_mem _ (List.mem_cons_of_mem _ List.mem_cons_self)))))) rfl) ?_
  refine VL.r (.inl rfl) rfl (by decide) (yr_move rfl rfl) ?_
  exact VL.nil fun a' w' ha hw => ⟨rfl, ha.mono (Cov.get (.cons rfl (.cons rfl (.cons rfl (.cons rfl (.cons rfl (.cons rfl (.cons rfl (.cons rfl .nil))))))))), hw⟩
/-- ████ THE WORKERS' PHASE. ████ -/
theorem workers17 (H : C.Ok) (R : C.Root w0) (hE : Cov E (C.penv Wg x1))
    (hrest : ∀ v' fA fB, Below w0.heap.size w0 v' → C.Done v' fA fB → V Try.prog 104 v' [] (C.senv Wg x1 C.n) Rest17 Q) : V Try.prog 104 w0 (C.ents Wg) E J17 Q := by
  intro a w ha hw m b k cs S hk hc
  refine Go3.ctl (g' := G (b.at a (.code (.seq R5 (.block 0 (.loop LB17))) :: .code (.seq R10 Rest17) :: k)) cs) rfl (fun _ => stepG_seq) ?_
  refine .ctl rfl (fun _ => stepG_seq) ?_
  refine start17 a w (ha.mono hE.get) hw m _ _ _ _ hk ?_
  rintro e a1 w1 ⟨rfl, m1, hp⟩
  refine .ctl rfl (fun _ => stepG_block) ?_
  refine .ctl rfl (fun _ => stepG_loop) ?_
  refine .phase (fun _ => Go3 Try.prog true S) (fun v1 hx => ?_) (fun _ _ _ _ h => h)
  have hp1 := hp.ext hx
  have hO := WC.own_of H hp1
  have hK := kn_of R hp1
  refine ⟨rfl, C.sc Wg v1, rfl, phOk H hO, ?_⟩
  refine loop17 (D := C.sc Wg v1) H hk rfl rfl rfl (fun i j h1 h2 => ⟨⟨j, h1, h2, .inl rfl⟩, ⟨j, h1, h2, .inr rfl⟩⟩) (fun i σ v k h1 h2 => ⟨k, h1, h2⟩) (fun a2 v' m2 hJ => ?_) C.n (Nat.le_refl _) a1 _ (by rw [Nat.sub_self]; exact m1) (kn_begin R hp1.below hO hK)
  obtain ⟨hb, fA, fB, hD⟩ := done_of H R hp1.below hO hK hJ
  exact hrest v' fA fB hb hD a2 v' m2 (Hp.refl v') m b k cs S hk hc
/-- .. where it is not yet known that the two lists lie apart. -/
theorem workers17' (hsz : bulk C.xss + C.ws.length + C.gs.length ≤ 1050000) (hval : ValidP C.xss C.ws C.gs) (hn : 1 ≤ C.n) (hn8 : C.n ≤ 8) (hA : Cl w0 C.a (hd C.f C.xss)) (hR : Rws w0 C.f C.xss) (hW : Cl w0 C.a1 (fl C.ws)) (hG : Cl w0 C.a2 (fl C.gs)) (hE : Cov E (C.penv Wg x1))
    (hrest : ∀ v' fA fB, Below w0.heap.size w0 v' → C.Done v' fA fB → V Try.prog 104 v' [] (C.senv Wg x1 C.n) Rest17 Q) : V Try.prog 104 w0 (C.ents Wg) E J17 Q := by
  intro a w ha hw
  have hap := hw.apart
  simp only [WC.ents, List.pairwise_cons, List.mem_cons, forall_eq_or_imp, List.not_mem_nil, false_imp_iff, implies_true, and_true, List.Pairwise.nil, forall_eq] at hap
  obtain ⟨_, _, _, ⟨a45, _⟩, _⟩ := hap
  have hnb : 0 < C.nb := by have := hval.1; unfold WC.nb blocksN; omega
  have hAB : C.bA ≠ C.bB := fun e => a45 (by show C.nb * 1 ≠ 0; omega) (by show C.nb * 1 ≠ 0; omega) _ _ rfl rfl e.symm
  exact workers17 ⟨hsz, hval, hn, hn8, hAB⟩ ⟨hA, hR, hW, hG⟩ hE hrest a w ha hw
end
/-- What is new since v' is new since w0. -/
theorem outs_from {w0 v' w1 : World} {N : List Ent} (hb : Below w0.heap.size w0 v') (h : Below v'.heap.size v' w1 ∧ (∀ f ∈ N, f.at v'.heap.size w1) ∧ N.Pairwise Ent.apart) : Below w0.heap.size w0 w1 ∧ (∀ f ∈ N, f.at w0.heap.size w1) ∧ N.Pairwise Ent.apart :=
  ⟨hb.trans (h.1.mono hb.size), fun e he => (h.2.1 e he).imp_right fun ⟨b, c, h1, h2, h3⟩ => ⟨b, c, h1, Nat.le_trans hb.size h2, h3⟩, h.2.2⟩
end Go.Proofs.Ytgeflnjjppgooaa.Q


namespace Go.Proofs.Ytgeflnjjppgooaa.Q
open Go.RowKit
set_option linter.unusedVariables false
set_option linter.unusedSimpArgs false
set_option maxRecDepth 20000
set_option maxHeartbeats 800000
attribute [local irreducible] wqList Wq

theorem sz30_Shared : (Try.prog.info? 30).map (·.size) = some 3 := by kernel_rfl
theorem known27_Shared : Known Try.prog 27 := Known.mk' Try.func27 (by kernel_rfl)
theorem known42_Shared : Known Try.prog 42 := Known.mk' Try.func42 (by kernel_rfl)
theorem fb2_Shared : flatB Try.prog 2 = true := by kernel_rfl
theorem known43_Shared : Known Try.prog 43 := Known.mk' Try.func43 (by kernel_rfl)
theorem mixed_Shared : Try.prog.follows .mixedOrders = true := by kernel_rfl
theorem known44_Shared : Known Try.prog 44 := Known.mk' Try.func44 (by kernel_rfl)
theorem elt23_Shared : Elt Try.prog 23 [Value.slice none 0 0] 24 := Elt.mk' (by kernel_rfl) (by decide)
theorem zero22_Shared : (Try.prog.info? 22).bind (·.zero) = some (Value.slice none 0 0) := by kernel_rfl
theorem sz22_Shared : (Try.prog.info? 22).map (·.size) = some 1 := by kernel_rfl
theorem lay76_Shared : Lay Try.prog 76 [Value.int .u64 0, Value.int .u32 0] [(0, 0), (0, 1), (1, 1)] := Lay.mk' (by kernel_rfl) (by kernel_rfl)
theorem zero76_Shared : (Try.prog.info? 76).bind (·.zero) = some (Value.agg #[Value.int .u64 0, Value.int .u32 0]) := by kernel_rfl
theorem sz76_Shared : (Try.prog.info? 76).map (·.size) = some 2 := by kernel_rfl
theorem fb22_Shared : flatB Try.prog 22 = true := by kernel_rfl
theorem sz23_Shared : (Try.prog.info? 23).map (·.size) = some 1 := by kernel_rfl
theorem fb23_Shared : flatB Try.prog 23 = true := by kernel_rfl
theorem elt26_Shared : Elt Try.prog 26 [Value.float .f32 0] 4 := Elt.mk' (by kernel_rfl) (by decide)
theorem known49_Shared : Known Try.prog 49 := Known.mk' Try.func49 (by kernel_rfl)
theorem sz26_Shared : (Try.prog.info? 26).map (·.size) = some 1 := by kernel_rfl
theorem fb26_Shared : flatB Try.prog 26 = true := by kernel_rfl
theorem known17_Shared : Known Try.prog 17 := Known.mk' Try.func17 (by kernel_rfl)

theorem c_implShared {w : World} {a a1 a2 : Option Addr} {c c1 c2 : Nat} {f : Nat → Option Addr × Nat} {xss : List (List Nat)} {ws gs : List Nat} {x : Nat} {n : Int} (hA : Cl w a (hd f xss)) (hR : Rws w f xss) (hW : Cl w a1 (fl ws)) (hG : Cl w a2 (fl gs)) (hsz : bulk xss + ws.length + gs.length ≤ 1050000) : New Try.prog 17 [.agg #[.slice a xss.length c, .slice a1 ws.length c1, .slice a2 gs.length c2], .float .f32 x, .int .i64 n] w (fun p : (Option Addr × Nat) × (Option Addr × Nat) => .tuple #[.slice p.1.1 (shAD xss ws gs x n).length p.1.2, .slice p.2.1 (shBD xss ws gs x n).length p.2.2, .bool (shOk xss ws gs x n)]) (fun p => [⟨p.2.1, fl (shBD xss ws gs x n), p.2.2 * 1, 26⟩, ⟨p.1.1, fl (shAD xss ws gs x n), p.1.2 * 1, 26⟩]) := by
  refine New.enter Try.func17 rfl Try.ntmps17 (Nat.le_of_ble_eq_true rfl) ?_
  have hr : ∀ i, i < xss.length → (xss.getD i []).length ≤ 1050000 := fun i hi => by have := bulk_row hi; omega
  have hxl : xss.length ≤ bulk xss := by unfold bulk; omega
  have hbl := blocksN_le xss.length
  refine V.seq ?_
  refine V.region ?_
  refine VL.new1 (.inl rfl) rfl (by decide) (yn_box rfl rfl (.inr ⟨rfl, rfl⟩)) ?_
  intro b3
  refine VL.new1 (.inl rfl) rfl (by decide) (yn_box rfl rfl (.inl ⟨rfl, rfl⟩)) ?_
  intro b5
  refine VL.r (.inl rfl) rfl (by decide) (yr_assign (u := .slice none 0 0) rfl rfl) ?_
  refine VL.r (.inl rfl) rfl (by decide) (yr_assign (u := .slice none 0 0) rfl rfl) ?_
  refine VL.r (.inl rfl) rfl (by decide) (yr_assign (u := .bool false) rfl rfl) ?_
  refine VL.nil ?_
  refine VE.then_wp ?_
  refine V.seq ?_
  refine V.seq ?_
  refine V.region ?_
  refine VL.q (.inl rfl) rfl (by decide) (yq_loadS rfl Try.underlying30 sz30_Shared rfl (by first | exact Sees.root (by assumption) | exact Sees.own (by repeat (first | exact List.mem_cons_self | exact List.mem_append_left _ (by assumption) | apply List.mem_cons_of_mem | apply List.mem_append_right)) | exact Sees.root (hR _ (by omega)) | exact Sees.own (RowsIn.mem (by repeat (first | exact RowsIn.here | exact RowsIn.last | apply RowsIn.there | apply RowsIn.thereS)) _ (by omega)) | exact Sees.own (WRowsIn.mem (by repeat (first | exact WRowsIn.here | exact WRowsIn.last | apply WRowsIn.there | apply WRowsIn.thereS)) _ (by omega))) rfl rfl rfl) ?_
  refine VL.q (.inl rfl) rfl (by decide) (yq_callf rfl known27_Shared (.cons rfl .nil) (fun w hw => (c_implValid (by first | exact Sees.root (by assumption) w hw | exact Sees.own (by repeat (first | exact List.mem_cons_self | exact List.mem_append_left _ (by assumption) | apply List.mem_cons_of_mem | apply List.mem_append_right)) w hw) (by first | exact Rws.root (by assumption) hw | exact Rws.own (by repeat (first | exact RowsIn.here | exact RowsIn.last | apply RowsIn.there | apply RowsIn.thereS)) hw) (by first | exact Sees.root (by assumption) w hw | exact Sees.own (by repeat (first | exact List.mem_cons_self | exact List.mem_append_left _ (by assumption) | apply List.mem_cons_of_mem | apply List.mem_append_right)) w hw) (by first | exact Sees.root (by assumption) w hw | exact Sees.own (by repeat (first | exact List.mem_cons_self | exact List.mem_append_left _ (by assumption) | apply List.mem_cons_of_mem | apply List.mem_append_right)) w hw) (by omega)))) ?_
  refine VL.r (.inl rfl) rfl (by decide) (yr_not rfl rfl) ?_
  refine VL.r (.inl rfl) rfl (by decide) (yr_move rfl rfl) ?_
  refine VX.split 21 _ rfl (fun h1 => ?_) (fun h1 => ?_)
  · skip
    replace h1 := bnot_t h1
    refine VL.no rfl rfl rfl rfl rfl (by decide) ?_
    refine VL.no rfl rfl rfl rfl rfl (by decide) ?_
    refine VL.no rfl rfl rfl rfl rfl (by decide) ?_
    refine VL.r (.inl rfl) rfl (by decide) (yr_pick_t (u := .bool true) rfl rfl rfl) ?_
    refine VL.r (.inl rfl) rfl (by decide) (yr_move rfl rfl) ?_
    refine VL.no rfl rfl rfl rfl rfl (by decide) ?_
    refine VL.no rfl rfl rfl rfl rfl (by decide) ?_
    refine VL.no rfl rfl rfl rfl rfl (by decide) ?_
    refine VL.r (.inl rfl) rfl (by decide) (yr_pick_t (u := .bool true) rfl rfl rfl) ?_
    refine VL.r (.inl rfl) rfl (by decide) (yr_move rfl rfl) ?_
    refine VL.no rfl rfl rfl rfl rfl (by decide) ?_
    refine VL.no rfl rfl rfl rfl rfl (by decide) ?_
    refine VL.no rfl rfl rfl rfl rfl (by decide) ?_
    refine VL.r (.inl rfl) rfl (by decide) (yr_pick_t (u := .bool true) rfl rfl rfl) ?_
    refine VL.nil ?_
    refine VE.then_wp ?_
    refine V.condT rfl ?_
    refine V.seq ?_
    refine V.region ?_
    refine VL.r (.inl rfl) rfl (by decide) (yr_assign (u := .slice none 0 0) rfl rfl) ?_
    refine VL.r (.inl rfl) rfl (by decide) (yr_assign (u := .slice none 0 0) rfl rfl) ?_
    refine VL.r (.inl rfl) rfl (by decide) (yr_assign (u := .bool false) rfl rfl) ?_
    refine VL.nil ?_
    refine VE.then_wp ?_
    refine V.ret ?_
    refine VE.then_ret ?_
    refine ret3 rfl rfl rfl rfl (by nofun) (by nofun) (by nofun) (fun w1 hw => ?_)
    first
      | (obtain rfl : j = (xss.getD 0 []).length := by omega
         exact ⟨((some ⟨b59, 0, none⟩, (xss.getD 0 []).length * (xss.getD 0 []).length), (some ⟨b61, 0, none⟩, (xss.getD 0 []).length)), by rw [shAD_yes hs, shBD_yes hs, hs, normA_length, normB_length] <;> rfl, by rw [shAD_yes hs, shBD_yes hs]; exact outs_from hbv (hw.outs (List.Sublist.refl _))⟩)
      | (have hs : shOk xss ws gs x n = false := by first | (simp only [shOk, *, Bool.false_and, Bool.and_false, Bool.and_true]; done) | (simp only [shOk, normOk, least, *, Bool.false_and, Bool.and_false, Bool.and_true]; done)
         exact ⟨((none, 0), (none, 0)), by rw [shAD_no hs, shBD_no hs, hs]; rfl, hw.below, by rw [shAD_no hs, shBD_no hs]; simp [fl, Ent.at], by simp [Ent.apart]⟩)
  · skip
    replace h1 := bnot_f h1
    refine VL.r (.inr ⟨_, _, _, rfl, rfl, rfl⟩) rfl (by decide) (yr_move rfl rfl) ?_
    refine VL.q (.inr ⟨_, _, _, rfl, rfl, rfl⟩) rfl (by decide) (yq_callf rfl known42_Shared (.cons rfl .nil) (fun w hw => c_IsFinite _)) ?_
    refine VL.r (.inr ⟨_, _, _, rfl, rfl, rfl⟩) rfl (by decide) (yr_not rfl rfl) ?_
    refine VL.r (.inl rfl) rfl (by decide) (yr_pick_f rfl rfl rfl) ?_
    refine VL.r (.inl rfl) rfl (by decide) (yr_move rfl rfl) ?_
    refine VX.split 26 _ rfl (fun h3 => ?_) (fun h3 => ?_)
    · skip
      replace h3 := bnot_t h3
      refine VL.no rfl rfl rfl rfl rfl (by decide) ?_
      refine VL.no rfl rfl rfl rfl rfl (by decide) ?_
      refine VL.no rfl rfl rfl rfl rfl (by decide) ?_
      refine VL.r (.inl rfl) rfl (by decide) (yr_pick_t (u := .bool true) rfl rfl rfl) ?_
      refine VL.r (.inl rfl) rfl (by decide) (yr_move rfl rfl) ?_
      refine VL.no rfl rfl rfl rfl rfl (by decide) ?_
      refine VL.no rfl rfl rfl rfl rfl (by decide) ?_
      refine VL.no rfl rfl rfl rfl rfl (by decide) ?_
      refine VL.r (.inl rfl) rfl (by decide) (yr_pick_t (u := .bool true) rfl rfl rfl) ?_
      refine VL.nil ?_
      refine VE.then_wp ?_
      refine V.condT rfl ?_
      refine V.seq ?_
      refine V.region ?_
      refine VL.r (.inl rfl) rfl (by decide) (yr_assign (u := .slice none 0 0) rfl rfl) ?_
      refine VL.r (.inl rfl) rfl (by decide) (yr_assign (u := .slice none 0 0) rfl rfl) ?_
      refine VL.r (.inl rfl) rfl (by decide) (yr_assign (u := .bool false) rfl rfl) ?_
      refine VL.nil ?_
      refine VE.then_wp ?_
      refine V.ret ?_
      refine VE.then_ret ?_
      refine ret3 rfl rfl rfl rfl (by nofun) (by nofun) (by nofun) (fun w1 hw => ?_)
      first
        | (obtain rfl : j = (xss.getD 0 []).length := by omega
           exact ⟨((some ⟨b59, 0, none⟩, (xss.getD 0 []).length * (xss.getD 0 []).length), (some ⟨b61, 0, none⟩, (xss.getD 0 []).length)), by rw [shAD_yes hs, shBD_yes hs, hs, normA_length, normB_length] <;> rfl, by rw [shAD_yes hs, shBD_yes hs]; exact outs_from hbv (hw.outs (List.Sublist.refl _))⟩)
        | (have hs : shOk xss ws gs x n = false := by first | (simp only [shOk, *, Bool.false_and, Bool.and_false, Bool.and_true]; done) | (simp only [shOk, normOk, least, *, Bool.false_and, Bool.and_false, Bool.and_true]; done)
           exact ⟨((none, 0), (none, 0)), by rw [shAD_no hs, shBD_no hs, hs]; rfl, hw.below, by rw [shAD_no hs, shBD_no hs]; simp [fl, Ent.at], by simp [Ent.apart]⟩)
    · skip
      replace h3 := bnot_f h3
      refine VL.r (.inr ⟨_, _, _, rfl, rfl, rfl⟩) rfl (by decide) (yr_move rfl rfl) ?_
      refine VL.r (.inr ⟨_, _, _, rfl, rfl, rfl⟩) rfl (by decide) (yr_fcmp (b := 0) rfl (.inr (.inr (.inr (.inr (.inr rfl))))) rfl rfl) ?_
      refine VL.r (.inr ⟨_, _, _, rfl, rfl, rfl⟩) rfl (by decide) (yr_not rfl rfl) ?_
      refine VL.r (.inl rfl) rfl (by decide) (yr_pick_f rfl rfl rfl) ?_
      refine VL.r (.inl rfl) rfl (by decide) (yr_move rfl rfl) ?_
      refine VX.split 31 _ rfl (fun h5 => ?_) (fun h5 => ?_)
      · skip
        replace h5 := bnot_t h5
        refine VL.no rfl rfl rfl rfl rfl (by decide) ?_
        refine VL.no rfl rfl rfl rfl rfl (by decide) ?_
        refine VL.no rfl rfl rfl rfl rfl (by decide) ?_
        refine VL.r (.inl rfl) rfl (by decide) (yr_pick_t (u := .bool true) rfl rfl rfl) ?_
        refine VL.nil ?_
        refine VE.then_wp ?_
        refine V.condT rfl ?_
        refine V.seq ?_
        refine V.region ?_
        refine VL.r (.inl rfl) rfl (by decide) (yr_assign (u := .slice none 0 0) rfl rfl) ?_
        refine VL.r (.inl rfl) rfl (by decide) (yr_assign (u := .slice none 0 0) rfl rfl) ?_
        refine VL.r (.inl rfl) rfl (by decide) (yr_assign (u := .bool false) rfl rfl) ?_
        refine VL.nil ?_
        refine VE.then_wp ?_
        refine V.ret ?_
        refine VE.then_ret ?_
        refine ret3 rfl rfl rfl rfl (by nofun) (by nofun) (by nofun) (fun w1 hw => ?_)
        first
          | (obtain rfl : j = (xss.getD 0 []).length := by omega
             exact ⟨((some ⟨b59, 0, none⟩, (xss.getD 0 []).length * (xss.getD 0 []).length), (some ⟨b61, 0, none⟩, (xss.getD 0 []).length)), by rw [shAD_yes hs, shBD_yes hs, hs, normA_length, normB_length] <;> rfl, by rw [shAD_yes hs, shBD_yes hs]; exact outs_from hbv (hw.outs (List.Sublist.refl _))⟩)
          | (have hs : shOk xss ws gs x n = false := by first | (simp only [shOk, *, Bool.false_and, Bool.and_false, Bool.and_true]; done) | (simp only [shOk, normOk, least, *, Bool.false_and, Bool.and_false, Bool.and_true]; done)
             exact ⟨((none, 0), (none, 0)), by rw [shAD_no hs, shBD_no hs, hs]; rfl, hw.below, by rw [shAD_no hs, shBD_no hs]; simp [fl, Ent.at], by simp [Ent.apart]⟩)
      · skip
        replace h5 := bnot_f h5
        refine VL.q (.inr ⟨_, _, _, rfl, rfl, rfl⟩) rfl (by decide) (yq_load rfl fb2_Shared rfl (by first | exact Sees.root (by assumption) | exact Sees.own (by repeat (first | exact List.mem_cons_self | exact List.mem_append_left _ (by assumption) | apply List.mem_cons_of_mem | apply List.mem_append_right)) | exact Sees.root (hR _ (by omega)) | exact Sees.own (RowsIn.mem (by repeat (first | exact RowsIn.here | exact RowsIn.last | apply RowsIn.there | apply RowsIn.thereS)) _ (by omega)) | exact Sees.own (WRowsIn.mem (by repeat (first | exact WRowsIn.here | exact WRowsIn.last | apply WRowsIn.there | apply WRowsIn.thereS)) _ (by omega))) rfl) ?_
        refine VL.q (.inr ⟨_, _, _, rfl, rfl, rfl⟩) rfl (by decide) (yq_callf rfl known43_Shared (.cons rfl (.cons rfl (.cons rfl .nil))) (fun w hw => c_within)) ?_
        refine VL.r (.inr ⟨_, _, _, rfl, rfl, rfl⟩) rfl (by decide) (yr_not rfl rfl) ?_
        refine VL.r (.inl rfl) rfl (by decide) (yr_pick_f rfl rfl rfl) ?_
        refine VL.nil ?_
        refine VE.then_wp ?_
        refine V.cond rfl (fun h7 => ?_) (fun h7 => ?_)
        · skip
          replace h7 := bnot_t h7
          refine V.seq ?_
          refine V.region ?_
          refine VL.r (.inl rfl) rfl (by decide) (yr_assign (u := .slice none 0 0) rfl rfl) ?_
          refine VL.r (.inl rfl) rfl (by decide) (yr_assign (u := .slice none 0 0) rfl rfl) ?_
          refine VL.r (.inl rfl) rfl (by decide) (yr_assign (u := .bool false) rfl rfl) ?_
          refine VL.nil ?_
          refine VE.then_wp ?_
          refine V.ret ?_
          refine VE.then_ret ?_
          refine ret3 rfl rfl rfl rfl (by nofun) (by nofun) (by nofun) (fun w1 hw => ?_)
          first
            | (obtain rfl : j = (xss.getD 0 []).length := by omega
               exact ⟨((some ⟨b59, 0, none⟩, (xss.getD 0 []).length * (xss.getD 0 []).length), (some ⟨b61, 0, none⟩, (xss.getD 0 []).length)), by rw [shAD_yes hs, shBD_yes hs, hs, normA_length, normB_length] <;> rfl, by rw [shAD_yes hs, shBD_yes hs]; exact outs_from hbv (hw.outs (List.Sublist.refl _))⟩)
            | (have hs : shOk xss ws gs x n = false := by first | (simp only [shOk, *, Bool.false_and, Bool.and_false, Bool.and_true]; done) | (simp only [shOk, normOk, least, *, Bool.false_and, Bool.and_false, Bool.and_true]; done)
               exact ⟨((none, 0), (none, 0)), by rw [shAD_no hs, shBD_no hs, hs]; rfl, hw.below, by rw [shAD_no hs, shBD_no hs]; simp [fl, Ent.at], by simp [Ent.apart]⟩)
        · skip
          replace h7 := bnot_f h7
          refine V.skip ?_
          refine VE.then_wp ?_
          refine V.seq ?_
          refine Dr.V.drawR [(0, 5), (1, 5), (3, 5), (4, 5), (2, 2), (6, 2), (7, 2), (8, 3), (5, 2), (9, 3)] [(2, ((fun b => .slice (some ⟨b, 0, none⟩) (blocksN xss.length) (blocksN xss.length)), (fun b => ⟨some ⟨b, 0, none⟩, cycle [Value.slice none 0 0] (blocksN xss.length), (blocksN xss.length) * 1, 23⟩))), (5, ((fun b => .slice (some ⟨b, 0, none⟩) (blocksN xss.length) (blocksN xss.length)), (fun b => ⟨some ⟨b, 0, none⟩, cycle [Value.slice none 0 0] (blocksN xss.length), (blocksN xss.length) * 1, 23⟩))), (6, ((fun b => .pointer (some (adr (some ⟨b, 0, none⟩) 0))), (fun b => ⟨some ⟨b, 0, none⟩, [Value.slice none 0 0], 1, 22⟩))), (7, ((fun b => .pointer (some (adr (some ⟨b, 0, none⟩) 0))), (fun b => ⟨some ⟨b, 0, none⟩, [Value.slice none 0 0], 1, 22⟩)))] [] _ mixed_Shared (by kernel_rfl) (fun w hw => hw) ?_
          refine Dr.SW.p rfl (.inl rfl) rfl (by decide) (yq_loadS rfl Try.underlying30 sz30_Shared rfl (by first | exact Sees.root (by assumption) | exact Sees.own (by (try simp only [List.append_assoc, List.cons_append, List.nil_append]); repeat (first | exact List.mem_cons_self | exact List.mem_append_left _ (by assumption) | apply List.mem_cons_of_mem | apply List.mem_append_right)) | exact Sees.root (hR _ (by omega)) | exact Sees.own (RowsIn.mem (by (try simp only [List.append_assoc, List.cons_append, List.nil_append]); repeat (first | exact RowsIn.here | exact RowsIn.last | apply RowsIn.there | apply RowsIn.thereS)) _ (by omega)) | exact Sees.own (WRowsIn.mem (by (try simp only [List.append_assoc, List.cons_append, List.nil_append]); repeat (first | exact WRowsIn.here | exact WRowsIn.last | apply WRowsIn.there | apply WRowsIn.thereS)) _ (by omega))) rfl rfl rfl) ?_
          refine Dr.SW.p rfl (.inl rfl) rfl (by decide) (yq_callf rfl known44_Shared (.cons rfl .nil) (fun w hw => (c_blocks (by omega)))) ?_
          refine Dr.SW.p rfl (.inl rfl) rfl (by decide) (yq_loadS rfl Try.underlying30 sz30_Shared rfl (by first | exact Sees.root (by assumption) | exact Sees.own (by (try simp only [List.append_assoc, List.cons_append, List.nil_append]); repeat (first | exact List.mem_cons_self | exact List.mem_append_left _ (by assumption) | apply List.mem_cons_of_mem | apply List.mem_append_right)) | exact Sees.root (hR _ (by omega)) | exact Sees.own (RowsIn.mem (by (try simp only [List.append_assoc, List.cons_append, List.nil_append]); repeat (first | exact RowsIn.here | exact RowsIn.last | apply RowsIn.there | apply RowsIn.thereS)) _ (by omega)) | exact Sees.own (WRowsIn.mem (by (try simp only [List.append_assoc, List.cons_append, List.nil_append]); repeat (first | exact WRowsIn.here | exact WRowsIn.last | apply WRowsIn.there | apply WRowsIn.thereS)) _ (by omega))) rfl rfl rfl) ?_
          refine Dr.SW.p rfl (.inl rfl) rfl (by decide) (yq_callf rfl known44_Shared (.cons rfl .nil) (fun w hw => (c_blocks (by omega)))) ?_
          refine Dr.SW.a rfl rfl rfl (by decide) rfl (fun w0 => (yn_makeSlicez 1 rfl rfl Try.underlying22 elt23_Shared rfl rfl rfl (by omega) (by omega))) ?_
          intro b38
          refine Dr.SW.a rfl rfl rfl (by decide) rfl (fun w0 => (yn_alloc rfl zero22_Shared rfl)) ?_
          intro b9
          refine Dr.SW.a rfl rfl rfl (by decide) rfl (fun w0 => (yn_alloc rfl zero22_Shared rfl)) ?_
          intro b10
          refine Dr.SW.s rfl (.inl rfl) rfl (yc_store rfl sz22_Shared rfl rfl (Dr.UpdF.app (by repeat (first | exact UpdF.here | apply UpdF.there | apply UpdF.thereS))) (.inl ⟨rfl, rfl⟩) rfl (by first | exact Nat.le_of_ble_eq_true rfl | simp) (by decide) rfl) ?_
          rintro ⟨⟩
          refine Dr.SW.a rfl rfl rfl (by decide) rfl (fun w0 => (yn_makeSlicez 1 rfl rfl Try.underlying22 elt23_Shared rfl rfl rfl (by omega) (by omega))) ?_
          intro b41
          refine Dr.SW.s rfl (.inl rfl) rfl (yc_store rfl sz22_Shared rfl rfl (Dr.UpdF.app (by repeat (first | exact UpdF.here | apply UpdF.there | apply UpdF.thereS))) (.inl ⟨rfl, rfl⟩) rfl (by first | exact Nat.le_of_ble_eq_true rfl | simp) (by decide) rfl) ?_
          rintro ⟨⟩
          refine Dr.SW.done ?_
          refine Dr.eqO (by simp only [List.append_nil, List.append_assoc, List.cons_append, List.nil_append] <;> rfl) ?_
          refine VE.then_wp ?_
          refine V.seq ?_
          refine V.region ?_
          refine VL.r (.inl rfl) rfl (by decide) (yr_build rfl lay76_Shared rfl .nil (by first | (simp; done) | (simp [vv]; done) | (simp [cn, cn1, cn0]; done)) rfl) ?_
          refine VL.new1 (.inl rfl) rfl (by decide) (yn_alloc rfl zero76_Shared rfl) ?_
          intro b11
          refine VL.s (.inl rfl) rfl (yc_store rfl sz76_Shared rfl rfl (by repeat (first | exact UpdF.here | apply UpdF.there | apply UpdF.thereS)) (.inr ⟨rfl, rfl⟩) rfl (by first | exact Nat.le_of_ble_eq_true rfl | simp) (by decide) rfl) ?_
          rintro ⟨⟩
          refine VL.nil ?_
          refine VE.then_wp ?_
          have hs : shOk xss ws gs x n = true := by first | (simp only [shOk, normOk, least, *, Bool.false_and, Bool.and_false, Bool.and_true]; done) | (simp only [shOk, normOk, *, Bool.false_and, Bool.and_false, Bool.and_true]; done)
          obtain ⟨n', rfl, hn1, hn8⟩ : ∃ n' : Nat, n = (n' : Int) ∧ 1 ≤ n' ∧ n' ≤ 8 := by
            have hd := of_decide_eq_true (Bool.and_eq_true_iff.1 hs).2
            exact ⟨n.toNat, by omega, by omega, by omega⟩
          have hval := ok_valid (sh_ok hs)
          refine fun a9 w9 h9 hw9 => workers17' (C := ⟨n', b3, b5, b9, b10, b38, b41, a, a1, a2, c, c1, c2, f, xss, ws, gs⟩) (Wg := b11) (x1 := x) hsz hval hn1 hn8 hA hR hW hG (.cons rfl (.cons rfl (.cons rfl (.cons rfl (.cons rfl (.cons rfl .nil)))))) (fun v' fA fB hbv hD => ?_) a9 w9 h9 (hw9.perm' (List.Perm.cons _ ((List.Perm.swap _ _ _).trans (List.Perm.cons _ (List.Perm.swap _ _ _)))))
          clear h9 hw9
          have hval2 := hval
          obtain ⟨v1, v2, v3, v4, v5, v6, v7, v8⟩ := hval
          have hnn : (xss.getD 0 []).length * (xss.getD 0 []).length ≤ 64 := Nat.mul_le_mul v8 v8
          have hix : ∀ {j k : Nat}, j < (xss.getD 0 []).length → k < (xss.getD 0 []).length → j * (xss.getD 0 []).length + k < (xss.getD 0 []).length * (xss.getD 0 []).length := idx_lt
          have hlA : ∀ k, (nmA xss gs (xss.getD 0 []).length k).length = (xss.getD 0 []).length * (xss.getD 0 []).length := nmA_length _ _ _
          have hlB : ∀ k, (nmB xss ws gs (xss.getD 0 []).length k).length = (xss.getD 0 []).length := nmB_length _ _ _ _
          obtain ⟨yA, hyl, hyg, hcA, hRA⟩ : ∃ yA : List (List Nat), yA.length = (blocksN xss.length) ∧ (∀ k, k < (blocksN xss.length) → yA.getD k [] = pcA xss gs (xss.getD 0 []).length k) ∧ Cl v' (some ⟨b38, 0, none⟩) (hd fA yA) ∧ Rws v' fA yA := ⟨_, by simp [WC.rA, WC.nb], fun k hk => rA_get hk, hD.cA, hD.rwA⟩
          obtain ⟨yB, hzl, hzg, hcB, hRB⟩ : ∃ yB : List (List Nat), yB.length = (blocksN xss.length) ∧ (∀ k, k < (blocksN xss.length) → yB.getD k [] = pcB xss ws gs (xss.getD 0 []).length k) ∧ Cl v' (some ⟨b41, 0, none⟩) (hd fB yB) ∧ Rws v' fB yB := ⟨_, by simp [WC.rB, WC.nb], fun k hk => rB_get hk, hD.cB, hD.rwB⟩
          have hq1 : Cl v' (some ⟨b3, 0, none⟩) [.slice a xss.length c, .slice a1 ws.length c1, .slice a2 gs.length c2] := hD.kn.h1
          have hq3 : Cl v' (some ⟨b9, 0, none⟩) [.slice (some ⟨b38, 0, none⟩) ((blocksN xss.length)) ((blocksN xss.length))] := hD.kn.h3
          have hq4 : Cl v' (some ⟨b10, 0, none⟩) [.slice (some ⟨b41, 0, none⟩) ((blocksN xss.length)) ((blocksN xss.length))] := hD.kn.h4
          have hvA : Cl v' a (hd f xss) := hD.kn.hA
          have hlp : ∀ k, k < (blocksN xss.length) → (yA.getD k []).length = (xss.getD 0 []).length * (xss.getD 0 []).length := fun k hk => by rw [hyg k hk]; exact blockA_length _ _ _ _ _
          have hlq : ∀ k, k < (blocksN xss.length) → (yB.getD k []).length = (xss.getD 0 []).length := fun k hk => by rw [hzg k hk]; exact blockB_length _ _ _ _ _ _
          have hstA : ∀ k, k < (blocksN xss.length) → addL (nmA xss gs (xss.getD 0 []).length k) (yA.getD k []) (yA.getD k []).length = nmA xss gs (xss.getD 0 []).length (k + 1) := fun k hk => by rw [hlp k hk, hyg k hk]; rfl
          have hstB : ∀ k, k < (blocksN xss.length) → addL (nmB xss ws gs (xss.getD 0 []).length k) (yB.getD k []) (yB.getD k []).length = nmB xss ws gs (xss.getD 0 []).length (k + 1) := fun k hk => by rw [hlq k hk, hzg k hk]; rfl
          clear hD
          show V _ _ v' [] [(44, .int .i64 (n' : Int)), (43, .int .i64 (n' : Int)), (11, .pointer (some (adr (some ⟨b11, 0, none⟩) 0))), (3, .pointer (some (adr (some ⟨b3, 0, none⟩) 0))), (5, .pointer (some (adr (some ⟨b5, 0, none⟩) 0))), (9, .pointer (some (adr (some ⟨b9, 0, none⟩) 0))), (10, .pointer (some (adr (some ⟨b10, 0, none⟩) 0))), (1, .float .f32 x)] _ _
          refine V.seq ?_
          refine V.region ?_
          refine VL.r (.inl rfl) rfl (by decide) (yr_fieldAddr rfl Try.underlying30 rfl rfl sz22_Shared (by decide) rfl) ?_
          refine VL.q (.inl rfl) rfl (by decide) (yq_load rfl fb22_Shared rfl (by first | exact Sees.root (by assumption) | exact Sees.own (by repeat (first | exact List.mem_cons_self | exact List.mem_append_left _ (by assumption) | apply List.mem_cons_of_mem | apply List.mem_append_right)) | exact Sees.root (hR _ (by omega)) | exact Sees.own (RowsIn.mem (by repeat (first | exact RowsIn.here | exact RowsIn.last | apply RowsIn.there | apply RowsIn.thereS)) _ (by omega)) | exact Sees.own (WRowsIn.mem (by repeat (first | exact WRowsIn.here | exact WRowsIn.last | apply WRowsIn.there | apply WRowsIn.thereS)) _ (by omega))) rfl) ?_
          refine VL.q (.inl rfl) rfl (by decide) (yq_idx (k := 0) rfl Try.underlying22 sz23_Shared rfl rfl (by first | exact Sees.root (by assumption) | exact Sees.own (by repeat (first | exact List.mem_cons_self | exact List.mem_append_left _ (by assumption) | apply List.mem_cons_of_mem | apply List.mem_append_right)) | exact Sees.root (hR _ (by omega)) | exact Sees.own (RowsIn.mem (by repeat (first | exact RowsIn.here | exact RowsIn.last | apply RowsIn.there | apply RowsIn.thereS)) _ (by omega)) | exact Sees.own (WRowsIn.mem (by repeat (first | exact WRowsIn.here | exact WRowsIn.last | apply WRowsIn.there | apply WRowsIn.thereS)) _ (by omega))) (by first | rfl | omega | (push_cast; rfl) | (push_cast; omega) | exact tmod_nat _ _) (by first | exact fl_length _ | (rw [hd_length]; assumption) | exact hd_length _ _ | (rw [fl_length, dgA_length]; exact hlA _)) (by first | omega | (rw [dgA_length, hlA]; omega))) ?_
          refine VL.q (.inl rfl) rfl (by decide) (yq_loadH rfl fb23_Shared rfl (by first | exact Sees.root (by assumption) | exact Sees.own (by repeat (first | exact List.mem_cons_self | exact List.mem_append_left _ (by assumption) | apply List.mem_cons_of_mem | apply List.mem_append_right)) | exact Sees.root (hR _ (by omega)) | exact Sees.own (RowsIn.mem (by repeat (first | exact RowsIn.here | exact RowsIn.last | apply RowsIn.there | apply RowsIn.thereS)) _ (by omega)) | exact Sees.own (WRowsIn.mem (by repeat (first | exact WRowsIn.here | exact WRowsIn.last | apply WRowsIn.there | apply WRowsIn.thereS)) _ (by omega))) (by first | omega | (rw [dgA_length, hlA]; omega))) ?_
          refine VL.r (.inl rfl) rfl (by decide) (yr_len rfl Try.underlying23 rfl) ?_
          refine VL.r (.inl rfl) rfl (by decide) (yr_assign rfl rfl) ?_
          refine VL.nil ?_
          refine VE.then_wp ?_
          refine V.seq ?_
          refine Dr.V.drawR [(0, 5), (1, 5), (2, 5), (4, 5), (3, 2), (6, 5), (5, 2), (7, 5)] [(3, ((fun b => .slice (some ⟨b, 0, none⟩) ((xss.getD 0 []).length * (xss.getD 0 []).length) ((xss.getD 0 []).length * (xss.getD 0 []).length)), (fun b => ⟨some ⟨b, 0, none⟩, cycle [Value.float .f32 0] ((xss.getD 0 []).length * (xss.getD 0 []).length), ((xss.getD 0 []).length * (xss.getD 0 []).length) * 1, 26⟩))), (5, ((fun b => .slice (some ⟨b, 0, none⟩) (xss.getD 0 []).length (xss.getD 0 []).length), (fun b => ⟨some ⟨b, 0, none⟩, cycle [Value.float .f32 0] (xss.getD 0 []).length, (xss.getD 0 []).length * 1, 26⟩)))] [] _ mixed_Shared (by kernel_rfl) (fun w hw => hw) ?_
          refine Dr.SW.r rfl (.inl rfl) rfl (by decide) (yr_move rfl rfl) ?_
          refine Dr.SW.r rfl (.inl rfl) rfl (by decide) (yr_move rfl rfl) ?_
          refine Dr.SW.r rfl (.inl rfl) rfl (by decide) (yr_mulN (xss.getD 0 []).length (xss.getD 0 []).length rfl rfl rfl (by omega) (by omega) (Nat.le_trans (mul_small (by omega) (by omega)) (by decide))) ?_
          refine Dr.SW.r rfl (.inl rfl) rfl (by decide) (yr_move rfl rfl) ?_
          refine Dr.SW.a rfl rfl rfl (by decide) rfl (fun w0 => (yn_makeSlicez 1 rfl rfl Try.underlying23 elt26_Shared rfl rfl rfl (by omega) (by omega))) ?_
          intro b59
          refine Dr.SW.r rfl (.inl rfl) rfl (by decide) (yr_assign rfl rfl) ?_
          refine Dr.SW.a rfl rfl rfl (by decide) rfl (fun w0 => (yn_makeSlicez 1 rfl rfl Try.underlying23 elt26_Shared rfl rfl rfl (by omega) (by omega))) ?_
          intro b61
          refine Dr.SW.r rfl (.inl rfl) rfl (by decide) (yr_assign rfl rfl) ?_
          refine Dr.SW.done ?_
          refine Dr.eqO (by simp only [List.append_nil, List.append_assoc, List.cons_append, List.nil_append] <;> rfl) ?_
          refine VE.then_wp ?_
          refine V.seq ?_
          refine V.seq ?_
          refine V.region ?_
          refine VL.q (.inl rfl) rfl (by decide) (yq_load rfl fb22_Shared rfl (by first | exact Sees.root (by assumption) | exact Sees.own (by repeat (first | exact List.mem_cons_self | exact List.mem_append_left _ (by assumption) | apply List.mem_cons_of_mem | apply List.mem_append_right)) | exact Sees.root (hR _ (by omega)) | exact Sees.own (RowsIn.mem (by repeat (first | exact RowsIn.here | exact RowsIn.last | apply RowsIn.there | apply RowsIn.thereS)) _ (by omega)) | exact Sees.own (WRowsIn.mem (by repeat (first | exact WRowsIn.here | exact WRowsIn.last | apply WRowsIn.there | apply WRowsIn.thereS)) _ (by omega))) rfl) ?_
          refine VL.r (.inl rfl) rfl (by decide) (yr_len rfl Try.underlying22 rfl) ?_
          refine VL.r (.inl rfl) rfl (by decide) (yr_move (u := .int .i64 0) rfl rfl) ?_
          refine VL.nil ?_
          refine VE.then_wp ?_
          refine V.block ?_
          refine V.loopc (G := Nat) [(1, _), (9, _), (10, _), (13, _), (14, _), (15, _), (63, _)] (fun (k : Nat) => k ≤ blocksN xss.length) (fun (k : Nat) => [⟨some ⟨b61, 0, none⟩, fl (nmB xss ws gs (xss.getD 0 []).length k), (xss.getD 0 []).length * 1, 26⟩, ⟨some ⟨b59, 0, none⟩, fl (nmA xss gs (xss.getD 0 []).length k), ((xss.getD 0 []).length * (xss.getD 0 []).length) * 1, 26⟩]) (fun (k : Nat) => [(64, .int .i64 (k : Int))]) (fun (k : Nat) => blocksN xss.length - k) 0 (.cons rfl (.cons rfl (.cons rfl (.cons rfl (.cons rfl (.cons rfl (.cons rfl .nil))))))) (.cons rfl .nil) ?_ ?_ ?_
          · exact (fun w hw => by rw [fl_zeros, fl_zeros] at hw; exact hw)
          · exact (by omega)
          rintro k hk
          show V _ _ _ [⟨some ⟨b61, 0, none⟩, fl (nmB xss ws gs (xss.getD 0 []).length k), (xss.getD 0 []).length * 1, 26⟩, ⟨some ⟨b59, 0, none⟩, fl (nmA xss gs (xss.getD 0 []).length k), ((xss.getD 0 []).length * (xss.getD 0 []).length) * 1, 26⟩] ([(64, .int .i64 (k : Int))] ++ [(1, _), (9, _), (10, _), (13, _), (14, _), (15, _), (63, _)]) _ _
          refine V.seq ?_
          refine V.region ?_
          refine VL.r (.inl rfl) rfl (by decide) (yr_icmp rfl (.inr (.inr (.inl rfl))) rfl rfl) ?_
          refine VL.nil ?_
          refine VE.then_wp ?_
          refine V.seq ?_
          refine V.cond rfl (fun h8 => ?_) (fun h8 => ?_)
          · skip
            replace h8 := ic_lss h8
            refine V.skip ?_
            refine VE.then_wp ?_
            refine V.seq ?_
            refine V.block ?_
            refine V.seq ?_
            refine V.region ?_
            refine VL.r (.inl rfl) rfl (by decide) (yr_move rfl rfl) ?_
            refine VL.r (.inl rfl) rfl (by decide) (yr_assign rfl rfl) ?_
            refine VL.nil ?_
            refine VE.then_wp ?_
            refine V.seq ?_
            refine V.region ?_
            refine VL.r (.inl rfl) rfl (by decide) (yr_move rfl rfl) ?_
            refine VL.q (.inl rfl) rfl (by decide) (yq_load rfl fb22_Shared rfl (by first | exact Sees.root (by assumption) | exact Sees.own (by repeat (first | exact List.mem_cons_self | exact List.mem_append_left _ (by assumption) | apply List.mem_cons_of_mem | apply List.mem_append_right)) | exact Sees.root (hR _ (by omega)) | exact Sees.own (RowsIn.mem (by repeat (first | exact RowsIn.here | exact RowsIn.last | apply RowsIn.there | apply RowsIn.thereS)) _ (by omega)) | exact Sees.own (WRowsIn.mem (by repeat (first | exact WRowsIn.here | exact WRowsIn.last | apply WRowsIn.there | apply WRowsIn.thereS)) _ (by omega))) rfl) ?_
            refine VL.r (.inl rfl) rfl (by decide) (yr_move rfl rfl) ?_
            refine VL.q (.inl rfl) rfl (by decide) (yq_idx (k := k) rfl Try.underlying22 sz23_Shared rfl rfl (by first | exact Sees.root (by assumption) | exact Sees.own (by repeat (first | exact List.mem_cons_self | exact List.mem_append_left _ (by assumption) | apply List.mem_cons_of_mem | apply List.mem_append_right)) | exact Sees.root (hR _ (by omega)) | exact Sees.own (RowsIn.mem (by repeat (first | exact RowsIn.here | exact RowsIn.last | apply RowsIn.there | apply RowsIn.thereS)) _ (by omega)) | exact Sees.own (WRowsIn.mem (by repeat (first | exact WRowsIn.here | exact WRowsIn.last | apply WRowsIn.there | apply WRowsIn.thereS)) _ (by omega))) (by first | rfl | omega | (push_cast; rfl) | (push_cast; omega) | exact tmod_nat _ _) (by first | exact fl_length _ | (rw [hd_length]; assumption) | exact hd_length _ _ | (rw [fl_length, dgA_length]; exact hlA _)) (by first | omega | (rw [dgA_length, hlA]; omega))) ?_
            refine VL.q (.inl rfl) rfl (by decide) (yq_loadH rfl fb23_Shared rfl (by first | exact Sees.root (by assumption) | exact Sees.own (by repeat (first | exact List.mem_cons_self | exact List.mem_append_left _ (by assumption) | apply List.mem_cons_of_mem | apply List.mem_append_right)) | exact Sees.root (hR _ (by omega)) | exact Sees.own (RowsIn.mem (by repeat (first | exact RowsIn.here | exact RowsIn.last | apply RowsIn.there | apply RowsIn.thereS)) _ (by omega)) | exact Sees.own (WRowsIn.mem (by repeat (first | exact WRowsIn.here | exact WRowsIn.last | apply WRowsIn.there | apply WRowsIn.thereS)) _ (by omega))) (by first | omega | (rw [dgA_length, hlA]; omega))) ?_
            refine VL.c (.inl rfl) rfl (by decide) (yc_callf rfl known49_Shared (.cons rfl (.cons rfl .nil)) (by apply Pick.one; repeat (first | exact Rem.here | apply Rem.there | apply Rem.thereS)) (c_addLists (by first | exact hRA k (by omega) | exact hRB k (by omega)) (by first | exact hlA _ | exact hlB _) (by first | exact Nat.le_of_eq (hlp k (by omega)) | exact Nat.le_of_eq (hlq k (by omega))) (by omega))) ?_
            rintro ⟨⟩
            refine VL.nil ?_
            refine VE.then_wp ?_
            refine V.region ?_
            refine VL.r (.inl rfl) rfl (by decide) (yr_move rfl rfl) ?_
            refine VL.q (.inl rfl) rfl (by decide) (yq_load rfl fb22_Shared rfl (by first | exact Sees.root (by assumption) | exact Sees.own (by repeat (first | exact List.mem_cons_self | exact List.mem_append_left _ (by assumption) | apply List.mem_cons_of_mem | apply List.mem_append_right)) | exact Sees.root (hR _ (by omega)) | exact Sees.own (RowsIn.mem (by repeat (first | exact RowsIn.here | exact RowsIn.last | apply RowsIn.there | apply RowsIn.thereS)) _ (by omega)) | exact Sees.own (WRowsIn.mem (by repeat (first | exact WRowsIn.here | exact WRowsIn.last | apply WRowsIn.there | apply WRowsIn.thereS)) _ (by omega))) rfl) ?_
            refine VL.r (.inl rfl) rfl (by decide) (yr_move rfl rfl) ?_
            refine VL.q (.inl rfl) rfl (by decide) (yq_idx (k := k) rfl Try.underlying22 sz23_Shared rfl rfl (by first | exact Sees.root (by assumption) | exact Sees.own (by repeat (first | exact List.mem_cons_self | exact List.mem_append_left _ (by assumption) | apply List.mem_cons_of_mem | apply List.mem_append_right)) | exact Sees.root (hR _ (by omega)) | exact Sees.own (RowsIn.mem (by repeat (first | exact RowsIn.here | exact RowsIn.last | apply RowsIn.there | apply RowsIn.thereS)) _ (by omega)) | exact Sees.own (WRowsIn.mem (by repeat (first | exact WRowsIn.here | exact WRowsIn.last | apply WRowsIn.there | apply WRowsIn.thereS)) _ (by omega))) (by first | rfl | omega | (push_cast; rfl) | (push_cast; omega) | exact tmod_nat _ _) (by first | exact fl_length _ | (rw [hd_length]; assumption) | exact hd_length _ _ | (rw [fl_length, dgA_length]; exact hlA _)) (by first | omega | (rw [dgA_length, hlA]; omega))) ?_
            refine VL.q (.inl rfl) rfl (by decide) (yq_loadH rfl fb23_Shared rfl (by first | exact Sees.root (by assumption) | exact Sees.own (by repeat (first | exact List.mem_cons_self | exact List.mem_append_left _ (by assumption) | apply List.mem_cons_of_mem | apply List.mem_append_right)) | exact Sees.root (hR _ (by omega)) | exact Sees.own (RowsIn.mem (by repeat (first | exact RowsIn.here | exact RowsIn.last | apply RowsIn.there | apply RowsIn.thereS)) _ (by omega)) | exact Sees.own (WRowsIn.mem (by repeat (first | exact WRowsIn.here | exact WRowsIn.last | apply WRowsIn.there | apply WRowsIn.thereS)) _ (by omega))) (by first | omega | (rw [dgA_length, hlA]; omega))) ?_
            refine VL.c (.inl rfl) rfl (by decide) (yc_callf rfl known49_Shared (.cons rfl (.cons rfl .nil)) (by apply Pick.one; repeat (first | exact Rem.here | apply Rem.there | apply Rem.thereS)) (c_addLists (by first | exact hRA k (by omega) | exact hRB k (by omega)) (by first | exact hlA _ | exact hlB _) (by first | exact Nat.le_of_eq (hlp k (by omega)) | exact Nat.le_of_eq (hlq k (by omega))) (by omega))) ?_
            rintro ⟨⟩
            refine VL.nil ?_
            refine VE.block_normal ?_
            refine VE.then_wp ?_
            refine V.region ?_
            refine VL.r (.inl rfl) rfl (by decide) (yr_int rfl rfl rfl (.inl ⟨rfl, wrap_in (by omega)⟩)) ?_
            refine VL.r (.inl rfl) rfl (by decide) (yr_move rfl rfl) ?_
            refine VL.nil ?_
            refine VE.round (k + 1) ?_ ?_ ?_ ?_ ?_
            · exact (.cons rfl .nil)
            · exact (.cons rfl (.cons rfl (.cons rfl (.cons rfl (.cons rfl (.cons rfl (.cons rfl .nil)))))))
            · exact (fun w hw => by rw [hstA k (by omega), hstB k (by omega)] at hw; exact hw)
            · omega
            · (try dsimp only); omega
          · skip
            replace h8 := ic_lss' h8
            refine V.exit ?_
            refine VE.then_exit ?_
            refine VE.then_exit ?_
            refine VE.block_here ?_
            refine VE.then_wp ?_
            refine V.seq ?_
            refine V.seq ?_
            refine V.region ?_
            refine VL.r (.inl rfl) rfl (by decide) (yr_move rfl rfl) ?_
            refine VL.r (.inl rfl) rfl (by decide) (yr_move (u := .int .i64 0) rfl rfl) ?_
            refine VL.nil ?_
            refine VE.then_wp ?_
            refine V.block ?_
            refine V.loopc (G := Nat) [(1, _), (13, _), (14, _), (15, _), (80, _)] (fun (j : Nat) => j ≤ (xss.getD 0 []).length) (fun (j : Nat) => [⟨some ⟨b61, 0, none⟩, fl (nmB xss ws gs (xss.getD 0 []).length (blocksN xss.length)), (xss.getD 0 []).length * 1, 26⟩, ⟨some ⟨b59, 0, none⟩, fl (dgA (nmA xss gs (xss.getD 0 []).length (blocksN xss.length)) x (xss.getD 0 []).length j), ((xss.getD 0 []).length * (xss.getD 0 []).length) * 1, 26⟩]) (fun (j : Nat) => [(81, .int .i64 (j : Int))]) (fun (j : Nat) => (xss.getD 0 []).length - j) 0 (.cons rfl (.cons rfl (.cons rfl (.cons rfl (.cons rfl .nil))))) (.cons rfl .nil) ?_ ?_ ?_
            · exact (fun w hw => by rw [show k = blocksN xss.length by omega] at hw; exact hw)
            · exact (by omega)
            rintro j hj
            show V _ _ _ [⟨some ⟨b61, 0, none⟩, fl (nmB xss ws gs (xss.getD 0 []).length (blocksN xss.length)), (xss.getD 0 []).length * 1, 26⟩, ⟨some ⟨b59, 0, none⟩, fl (dgA (nmA xss gs (xss.getD 0 []).length (blocksN xss.length)) x (xss.getD 0 []).length j), ((xss.getD 0 []).length * (xss.getD 0 []).length) * 1, 26⟩] ([(81, .int .i64 (j : Int))] ++ [(1, _), (13, _), (14, _), (15, _), (80, _)]) _ _
            have hjj := fun (h : j < (xss.getD 0 []).length) => hix h h
            refine V.seq ?_
            refine V.region ?_
            refine VL.r (.inl rfl) rfl (by decide) (yr_icmp rfl (.inr (.inr (.inl rfl))) rfl rfl) ?_
            refine VL.nil ?_
            refine VE.then_wp ?_
            refine V.seq ?_
            refine V.cond rfl (fun h9 => ?_) (fun h9 => ?_)
            · skip
              replace h9 := ic_lss h9
              refine V.skip ?_
              refine VE.then_wp ?_
              refine V.seq ?_
              refine V.block ?_
              refine V.seq ?_
              refine V.region ?_
              refine VL.r (.inl rfl) rfl (by decide) (yr_move rfl rfl) ?_
              refine VL.r (.inl rfl) rfl (by decide) (yr_assign rfl rfl) ?_
              refine VL.nil ?_
              refine VE.then_wp ?_
              refine V.region ?_
              refine VL.r (.inl rfl) rfl (by decide) (yr_move rfl rfl) ?_
              refine VL.r (.inl rfl) rfl (by decide) (yr_move rfl rfl) ?_
              refine VL.r (.inl rfl) rfl (by decide) (yr_move rfl rfl) ?_
              refine VL.r (.inl rfl) rfl (by decide) (yr_mulN j (xss.getD 0 []).length rfl rfl rfl (by omega) (by omega) (Nat.le_trans (mul_small (by omega) (by omega)) (by decide))) ?_
              refine VL.r (.inl rfl) rfl (by decide) (yr_move rfl rfl) ?_
              refine VL.r (.inl rfl) rfl (by decide) (yr_int rfl rfl rfl (.inl ⟨rfl, wrap_in (by omega)⟩)) ?_
              refine VL.r (.inl rfl) rfl (by decide) (yr_move rfl rfl) ?_
              refine VL.r (.inl rfl) rfl (by decide) (yr_move rfl rfl) ?_
              refine VL.r (.inl rfl) rfl (by decide) (yr_move rfl rfl) ?_
              refine VL.r (.inl rfl) rfl (by decide) (yr_mulN j (xss.getD 0 []).length rfl rfl rfl (by omega) (by omega) (Nat.le_trans (mul_small (by omega) (by omega)) (by decide))) ?_
              refine VL.r (.inl rfl) rfl (by decide) (yr_move rfl rfl) ?_
              refine VL.r (.inl rfl) rfl (by decide) (yr_int rfl rfl rfl (.inl ⟨rfl, wrap_in (by omega)⟩)) ?_
              refine VL.q (.inl rfl) rfl (by decide) (yq_idx (k := ((j * (xss.getD 0 []).length) + j)) rfl Try.underlying23 sz26_Shared rfl rfl (by first | exact Sees.root (by assumption) | exact Sees.own (by repeat (first | exact List.mem_cons_self | exact List.mem_append_left _ (by assumption) | apply List.mem_cons_of_mem | apply List.mem_append_right)) | exact Sees.root (hR _ (by omega)) | exact Sees.own (RowsIn.mem (by repeat (first | exact RowsIn.here | exact RowsIn.last | apply RowsIn.there | apply RowsIn.thereS)) _ (by omega)) | exact Sees.own (WRowsIn.mem (by repeat (first | exact WRowsIn.here | exact WRowsIn.last | apply WRowsIn.there | apply WRowsIn.thereS)) _ (by omega))) (by first | rfl | omega | (push_cast; rfl) | (push_cast; omega) | exact tmod_nat _ _) (by first | exact fl_length _ | (rw [hd_length]; assumption) | exact hd_length _ _ | (rw [fl_length, dgA_length]; exact hlA _)) (by first | omega | (rw [dgA_length, hlA]; omega))) ?_
              refine VL.q (.inl rfl) rfl (by decide) (yq_loadF rfl fb26_Shared rfl (by first | exact Sees.root (by assumption) | exact Sees.own (by repeat (first | exact List.mem_cons_self | exact List.mem_append_left _ (by assumption) | apply List.mem_cons_of_mem | apply List.mem_append_right)) | exact Sees.root (hR _ (by omega)) | exact Sees.own (RowsIn.mem (by repeat (first | exact RowsIn.here | exact RowsIn.last | apply RowsIn.there | apply RowsIn.thereS)) _ (by omega)) | exact Sees.own (WRowsIn.mem (by repeat (first | exact WRowsIn.here | exact WRowsIn.last | apply WRowsIn.there | apply WRowsIn.thereS)) _ (by omega))) (by first | omega | (rw [dgA_length, hlA]; omega))) ?_
              refine VL.r (.inl rfl) rfl (by decide) (yr_move rfl rfl) ?_
              refine VL.r (.inl rfl) rfl (by decide) (yr_float rfl (.inl rfl) rfl rfl) ?_
              refine VL.q (.inl rfl) rfl (by decide) (yq_idx (k := ((j * (xss.getD 0 []).length) + j)) rfl Try.underlying23 sz26_Shared rfl rfl (by first | exact Sees.root (by assumption) | exact Sees.own (by repeat (first | exact List.mem_cons_self | exact List.mem_append_left _ (by assumption) | apply List.mem_cons_of_mem | apply List.mem_append_right)) | exact Sees.root (hR _ (by omega)) | exact Sees.own (RowsIn.mem (by repeat (first | exact RowsIn.here | exact RowsIn.last | apply RowsIn.there | apply RowsIn.thereS)) _ (by omega)) | exact Sees.own (WRowsIn.mem (by repeat (first | exact WRowsIn.here | exact WRowsIn.last | apply WRowsIn.there | apply WRowsIn.thereS)) _ (by omega))) (by first | rfl | omega | (push_cast; rfl) | (push_cast; omega) | exact tmod_nat _ _) (by first | exact fl_length _ | (rw [hd_length]; assumption) | exact hd_length _ _ | (rw [fl_length, dgA_length]; exact hlA _)) (by first | omega | (rw [dgA_length, hlA]; omega))) ?_
              refine VL.s (.inl rfl) rfl (yc_store rfl sz26_Shared rfl rfl (by repeat (first | exact UpdF.here | apply UpdF.there | apply UpdF.thereS)) (.inl ⟨rfl, rfl⟩) rfl (by rw [fl_length, dgA_length, hlA]; omega) (by decide) (fl_set _ _ _)) ?_
              rintro ⟨⟩
              refine VL.nil ?_
              refine VE.block_normal ?_
              refine VE.then_wp ?_
              refine V.region ?_
              refine VL.r (.inl rfl) rfl (by decide) (yr_int rfl rfl rfl (.inl ⟨rfl, wrap_in (by omega)⟩)) ?_
              refine VL.r (.inl rfl) rfl (by decide) (yr_move rfl rfl) ?_
              refine VL.nil ?_
              refine VE.round (j + 1) ?_ ?_ ?_ ?_ ?_
              · exact (.cons rfl .nil)
              · exact (.cons rfl (.cons rfl (.cons rfl (.cons rfl (.cons rfl .nil)))))
              · exact (fun w hw => hw)
              · omega
              · (try dsimp only); omega
            · skip
              replace h9 := ic_lss' h9
              refine V.exit ?_
              refine VE.then_exit ?_
              refine VE.then_exit ?_
              refine VE.block_here ?_
              refine VE.then_wp ?_
              refine V.seq ?_
              refine V.region ?_
              refine VL.r (.inl rfl) rfl (by decide) (yr_move rfl rfl) ?_
              refine VL.r (.inl rfl) rfl (by decide) (yr_move rfl rfl) ?_
              refine VL.r (.inl rfl) rfl (by decide) (yr_assign rfl rfl) ?_
              refine VL.r (.inl rfl) rfl (by decide) (yr_assign rfl rfl) ?_
              refine VL.r (.inl rfl) rfl (by decide) (yr_assign (u := .bool true) rfl rfl) ?_
              refine VL.nil ?_
              refine VE.then_wp ?_
              refine V.ret ?_
              refine ret3 rfl rfl rfl rfl (by nofun) (by nofun) (by nofun) (fun w1 hw => ?_)
              first
                | (obtain rfl : j = (xss.getD 0 []).length := by omega
                   exact ⟨((some ⟨b59, 0, none⟩, (xss.getD 0 []).length * (xss.getD 0 []).length), (some ⟨b61, 0, none⟩, (xss.getD 0 []).length)), by rw [shAD_yes hs, shBD_yes hs, hs, normA_length, normB_length] <;> rfl, by rw [shAD_yes hs, shBD_yes hs]; exact outs_from hbv (hw.outs (List.Sublist.refl _))⟩)
                | (have hs : shOk xss ws gs x n = false := by first | (simp only [shOk, *, Bool.false_and, Bool.and_false, Bool.and_true]; done) | (simp only [shOk, normOk, least, *, Bool.false_and, Bool.and_false, Bool.and_true]; done)
                   exact ⟨((none, 0), (none, 0)), by rw [shAD_no hs, shBD_no hs, hs]; rfl, hw.below, by rw [shAD_no hs, shBD_no hs]; simp [fl, Ent.at], by simp [Ent.apart]⟩)

theorem c_implNorm {w : World} {a a1 a2 : Option Addr} {c c1 c2 : Nat} {f : Nat → Option Addr × Nat} {xss : List (List Nat)} {ws gs : List Nat} {x : Nat} (hA : Cl w a (hd f xss)) (hR : Rws w f xss) (hW : Cl w a1 (fl ws)) (hG : Cl w a2 (fl gs)) (hsz : bulk xss + ws.length + gs.length ≤ 1050000) : New Try.prog 10 [.agg #[.slice a xss.length c, .slice a1 ws.length c1, .slice a2 gs.length c2], .float .f32 x] w (fun p : (Option Addr × Nat) × (Option Addr × Nat) => .tuple #[.slice p.1.1 (normAD xss ws gs x).length p.1.2, .slice p.2.1 (normBD xss ws gs x).length p.2.2, .bool (normOk xss ws gs x)]) (fun p => [⟨p.2.1, fl (normBD xss ws gs x), p.2.2 * 1, 26⟩, ⟨p.1.1, fl (normAD xss ws gs x), p.1.2 * 1, 26⟩]) := by
  refine New.enter Try.func10 rfl Try.ntmps10 (Nat.le_of_ble_eq_true rfl) ?_
  have hr : ∀ i, i < xss.length → (xss.getD i []).length ≤ 1050000 := fun i hi => by have := bulk_row hi; omega
  have hxl : xss.length ≤ bulk xss := by unfold bulk; omega
  refine V.seq ?_
  refine V.region ?_
  refine VL.new1 (.inl rfl) rfl (by decide) (yn_box rfl rfl (.inr ⟨rfl, rfl⟩)) ?_
  intro b2
  refine VL.r (.inl rfl) rfl (by decide) (yr_assign (u := .slice none 0 0) rfl rfl) ?_
  refine VL.r (.inl rfl) rfl (by decide) (yr_assign (u := .slice none 0 0) rfl rfl) ?_
  refine VL.r (.inl rfl) rfl (by decide) (yr_assign (u := .bool false) rfl rfl) ?_
  refine VL.nil ?_
  refine VE.then_wp ?_
  refine V.seq ?_
  refine V.region ?_
  refine VL.q (.inl rfl) rfl (by decide) (yq_loadS rfl Try.underlying30 sz30_Shared rfl (by first | exact Sees.root (by assumption) | exact Sees.own (by repeat (first | exact List.mem_cons_self | exact List.mem_append_left _ (by assumption) | apply List.mem_cons_of_mem | apply List.mem_append_right)) | exact Sees.root (hR _ (by omega)) | exact Sees.own (RowsIn.mem (by repeat (first | exact RowsIn.here | exact RowsIn.last | apply RowsIn.there | apply RowsIn.thereS)) _ (by omega)) | exact Sees.own (WRowsIn.mem (by repeat (first | exact WRowsIn.here | exact WRowsIn.last | apply WRowsIn.there | apply WRowsIn.thereS)) _ (by omega))) rfl rfl rfl) ?_
  refine VL.r (.inl rfl) rfl (by decide) (yr_move rfl rfl) ?_
  refine VL.new (.inl rfl) rfl (by decide) (yn_callf rfl known17_Shared (.cons rfl (.cons rfl (.cons rfl .nil))) (fun w hw => (c_implShared (by first | exact Sees.root (by assumption) w hw | exact Sees.own (by repeat (first | exact List.mem_cons_self | exact List.mem_append_left _ (by assumption) | apply List.mem_cons_of_mem | apply List.mem_append_right)) w hw) (by first | exact Rws.root (by assumption) hw | exact Rws.own (by repeat (first | exact RowsIn.here | exact RowsIn.last | apply RowsIn.there | apply RowsIn.thereS)) hw) (by first | exact Sees.root (by assumption) w hw | exact Sees.own (by repeat (first | exact List.mem_cons_self | exact List.mem_append_left _ (by assumption) | apply List.mem_cons_of_mem | apply List.mem_append_right)) w hw) (by first | exact Sees.root (by assumption) w hw | exact Sees.own (by repeat (first | exact List.mem_cons_self | exact List.mem_append_left _ (by assumption) | apply List.mem_cons_of_mem | apply List.mem_append_right)) w hw) (by omega)))) ?_
  rintro ⟨⟨a9, c9⟩, ⟨d9, e9⟩⟩
  refine VL.r (.inl rfl) rfl (by decide) (yr_extract rfl rfl rfl (by nofun)) ?_
  refine VL.r (.inl rfl) rfl (by decide) (yr_extract rfl rfl rfl (by nofun)) ?_
  refine VL.r (.inl rfl) rfl (by decide) (yr_extract rfl rfl rfl (by nofun)) ?_
  refine VL.r (.inl rfl) rfl (by decide) (yr_assign rfl rfl) ?_
  refine VL.r (.inl rfl) rfl (by decide) (yr_assign rfl rfl) ?_
  refine VL.r (.inl rfl) rfl (by decide) (yr_assign rfl rfl) ?_
  refine VL.nil ?_
  refine VE.then_wp ?_
  refine V.ret ?_
  refine ret3 rfl rfl rfl rfl (by nofun) (by nofun) (by nofun) (fun w1 hw => ?_)
  obtain ⟨q1, q2, q3⟩ := sh_norm (xss := xss) (ws := ws) (gs := gs) (x := x) (n := 1) (by decide)
  exact ⟨((a9, c9), (d9, e9)), by rw [q1, q2, q3] <;> rfl, by rw [← q2, ← q3]; exact hw.outs (((List.nil_sublist _).cons_cons _).cons_cons _)⟩

end Go.Proofs.Ytgeflnjjppgooaa.Q


namespace Go.Proofs.Ytgeflnjjppgooaa.Q
open Go.RowKit
set_option linter.unusedVariables false
set_option linter.unusedSimpArgs false
set_option maxRecDepth 20000
set_option maxHeartbeats 800000
attribute [local irreducible] wqList Wq

theorem sz25_SharedL : (Try.prog.info? 25).map (·.size) = some 3 := by kernel_rfl
theorem known7_SharedL : Known Try.prog 7 := Known.mk' Try.func7 (by kernel_rfl)
theorem known9_SharedL : Known Try.prog 9 := Known.mk' Try.func9 (by kernel_rfl)
theorem zero30_SharedL : (Try.prog.info? 30).bind (·.zero) = some (Value.agg #[Value.slice none 0 0, Value.slice none 0 0, Value.slice none 0 0]) := by kernel_rfl
theorem sz30_SharedL : (Try.prog.info? 30).map (·.size) = some 3 := by kernel_rfl
theorem known11_SharedL : Known Try.prog 11 := Known.mk' Try.func11 (by kernel_rfl)
theorem mixed_SharedL : Try.prog.follows .mixedOrders = true := by kernel_rfl
theorem known12_SharedL : Known Try.prog 12 := Known.mk' Try.func12 (by kernel_rfl)
theorem known13_SharedL : Known Try.prog 13 := Known.mk' Try.func13 (by kernel_rfl)
theorem known14_SharedL : Known Try.prog 14 := Known.mk' Try.func14 (by kernel_rfl)
theorem known15_SharedL : Known Try.prog 15 := Known.mk' Try.func15 (by kernel_rfl)
theorem known8_SharedL : Known Try.prog 8 := Known.mk' Try.func8 (by kernel_rfl)
theorem known10_SharedL : Known Try.prog 10 := Known.mk' Try.func10 (by kernel_rfl)

theorem law_NormalOf {w : World} {a a1 a2 : Option Addr} {c c1 c2 : Nat} {f : Nat → Option Addr × Nat} {xss : List (List Nat)} {ws gs : List Nat} {x : Nat} (hA : Cl w a (hd f xss)) (hR : Rws w f xss) (hW : Cl w a1 (fl ws)) (hG : Cl w a2 (fl gs)) (hX : Cans xss) (hXw : ∀ x ∈ ws, Can .f32 x) (hXg : ∀ x ∈ gs, Can .f32 x) (hm : xss.length ≤ 9223372036854775807) (hr1 : ∀ i, i < xss.length → (xss.getD i []).length ≤ 9223372036854775807) (hw1 : ws.length ≤ 9223372036854775807) (hg1 : gs.length ≤ 9223372036854775807) : Pure Try.prog 3 [.agg #[.slice a xss.length c, .slice a1 ws.length c1, .slice a2 gs.length c2], .float .f32 x] w (.bool true) := by
  refine Pure.enter Try.func3 rfl Try.ntmps3 (Nat.le_of_ble_eq_true rfl) ?_
  have hbu : bulk xss = xss.length + sumK xss xss.length := rfl
  have hS1 := can_normAD xss ws gs x
  have hS2 := can_normBD xss ws gs x
  have hSl1 := length_normAD xss ws gs x
  have hSl2 := length_normBD xss ws gs x
  refine V.seq ?_
  refine V.region ?_
  refine VL.new1 (.inl rfl) rfl (by decide) (yn_box rfl rfl (.inr ⟨rfl, rfl⟩)) ?_
  intro b2
  refine VL.r (.inl rfl) rfl (by decide) (yr_assign (u := .bool false) rfl rfl) ?_
  refine VL.nil ?_
  refine VE.then_wp ?_
  refine V.seq ?_
  refine V.region ?_
  refine VL.r (.inl rfl) rfl (by decide) (yr_assign (u := .int .i64 1048576) rfl rfl) ?_
  refine VL.nil ?_
  refine VE.then_wp ?_
  refine V.seq ?_
  refine V.region ?_
  refine VL.q (.inl rfl) rfl (by decide) (yq_loadS rfl Try.underlying25 sz25_SharedL rfl (by first | exact Sees.root (by assumption) | exact Sees.own (by repeat (first | exact List.mem_cons_self | exact List.mem_append_left _ (by assumption) | apply List.mem_cons_of_mem | apply List.mem_append_right)) | exact Sees.root (hR _ (by omega)) | exact Sees.own (RowsIn.mem (by repeat (first | exact RowsIn.here | exact RowsIn.last | apply RowsIn.there | apply RowsIn.thereS)) _ (by omega)) | exact Sees.own (WRowsIn.mem (by repeat (first | exact WRowsIn.here | exact WRowsIn.last | apply WRowsIn.there | apply WRowsIn.thereS)) _ (by omega))) rfl rfl rfl) ?_
  refine VL.r (.inl rfl) rfl (by decide) (yr_move rfl rfl) ?_
  refine VL.q (.inl rfl) rfl (by decide) (yq_callf rfl known7_SharedL (.cons rfl (.cons rfl .nil)) (fun w hw => (c_szDesign (by first | exact Sees.root (by assumption) w hw | exact Sees.own (by repeat (first | exact List.mem_cons_self | exact List.mem_append_left _ (by assumption) | apply List.mem_cons_of_mem | apply List.mem_append_right)) w hw) (by omega) (by omega) (by omega) (by assumption) (by omega) (by omega)))) ?_
  refine VL.r (.inl rfl) rfl (by decide) (yr_assign rfl rfl) ?_
  refine VL.nil ?_
  refine VE.then_wp ?_
  refine V.seq ?_
  refine V.seq ?_
  refine V.region ?_
  refine VL.r (.inl rfl) rfl (by decide) (yr_move rfl rfl) ?_
  refine VL.r (.inl rfl) rfl (by decide) (yr_icmp rfl (.inr (.inr (.inl rfl))) rfl rfl) ?_
  refine VL.nil ?_
  refine VE.then_wp ?_
  refine V.cond rfl (fun h1 => ?_) (fun h1 => ?_)
  · skip
    replace h1 := ic_lss h1
    refine V.seq ?_
    refine V.region ?_
    refine VL.r (.inl rfl) rfl (by decide) (yr_assign (u := .bool true) rfl rfl) ?_
    refine VL.nil ?_
    refine VE.then_wp ?_
    refine V.ret ?_
    refine VE.then_ret ?_
    refine ret1 rfl rfl (fun w1 hw => ?_)
    exact ⟨rfl, hw.below⟩
  · skip
    replace h1 := ic_lss' h1
    have hsz := szOf_fits h1
    refine V.skip ?_
    refine VE.then_wp ?_
    refine V.seq ?_
    refine V.region ?_
    refine VL.q (.inl rfl) rfl (by decide) (yq_loadS rfl Try.underlying25 sz25_SharedL rfl (by first | exact Sees.root (by assumption) | exact Sees.own (by repeat (first | exact List.mem_cons_self | exact List.mem_append_left _ (by assumption) | apply List.mem_cons_of_mem | apply List.mem_append_right)) | exact Sees.root (hR _ (by omega)) | exact Sees.own (RowsIn.mem (by repeat (first | exact RowsIn.here | exact RowsIn.last | apply RowsIn.there | apply RowsIn.thereS)) _ (by omega)) | exact Sees.own (WRowsIn.mem (by repeat (first | exact WRowsIn.here | exact WRowsIn.last | apply WRowsIn.there | apply WRowsIn.thereS)) _ (by omega))) rfl rfl rfl) ?_
    refine VL.new (.inl rfl) rfl (by decide) (yn_callf rfl known9_SharedL (.cons rfl .nil) (fun w hw => (c_toDesign (by first | exact Sees.root (by assumption) w hw | exact Sees.own (by repeat (first | exact List.mem_cons_self | exact List.mem_append_left _ (by assumption) | apply List.mem_cons_of_mem | apply List.mem_append_right)) w hw) (by first | exact Rws.root (by assumption) hw | exact Rws.own (by repeat (first | exact RowsIn.here | exact RowsIn.last | apply RowsIn.there | apply RowsIn.thereS)) hw) (by first | exact Sees.root (by assumption) w hw | exact Sees.own (by repeat (first | exact List.mem_cons_self | exact List.mem_append_left _ (by assumption) | apply List.mem_cons_of_mem | apply List.mem_append_right)) w hw) (by first | exact Sees.root (by assumption) w hw | exact Sees.own (by repeat (first | exact List.mem_cons_self | exact List.mem_append_left _ (by assumption) | apply List.mem_cons_of_mem | apply List.mem_append_right)) w hw) (by omega)))) ?_
    rintro ⟨⟨b26, f26⟩, ⟨a26, c26⟩, ⟨d26, e26⟩⟩
    refine VL.r (.inl rfl) rfl (by decide) (yr_move rfl rfl) ?_
    refine VL.new (.inl rfl) rfl (by decide) (yn_callf rfl known8_SharedL (.cons rfl (.cons rfl .nil)) (fun w hw => (c_specNorm (by first | exact Sees.root (by assumption) w hw | exact Sees.own (by repeat (first | exact List.mem_cons_self | exact List.mem_append_left _ (by assumption) | apply List.mem_cons_of_mem | apply List.mem_append_right)) w hw) (by first | exact Rws.root (by assumption) hw | exact Rws.own (by repeat (first | exact RowsIn.here | exact RowsIn.last | apply RowsIn.there | apply RowsIn.thereS)) hw) (by first | exact Sees.root (by assumption) w hw | exact Sees.own (by repeat (first | exact List.mem_cons_self | exact List.mem_append_left _ (by assumption) | apply List.mem_cons_of_mem | apply List.mem_append_right)) w hw) (by first | exact Sees.root (by assumption) w hw | exact Sees.own (by repeat (first | exact List.mem_cons_self | exact List.mem_append_left _ (by assumption) | apply List.mem_cons_of_mem | apply List.mem_append_right)) w hw) (by omega)))) ?_
    rintro ⟨⟨a28, c28⟩, ⟨d28, e28⟩⟩
    refine VL.r (.inl rfl) rfl (by decide) (yr_move rfl rfl) ?_
    refine VL.r (.inl rfl) rfl (by decide) (yr_extract rfl rfl rfl (by nofun)) ?_
    refine VL.r (.inl rfl) rfl (by decide) (yr_extract rfl rfl rfl (by nofun)) ?_
    refine VL.r (.inl rfl) rfl (by decide) (yr_extract rfl rfl rfl (by nofun)) ?_
    refine VL.r (.inl rfl) rfl (by decide) (yr_assign rfl rfl) ?_
    refine VL.r (.inl rfl) rfl (by decide) (yr_assign rfl rfl) ?_
    refine VL.r (.inl rfl) rfl (by decide) (yr_assign rfl rfl) ?_
    refine VL.nil ?_
    refine VE.then_wp ?_
    refine V.seq ?_
    refine V.region ?_
    refine VL.q (.inl rfl) rfl (by decide) (yq_loadS rfl Try.underlying25 sz25_SharedL rfl (by first | exact Sees.root (by assumption) | exact Sees.own (by repeat (first | exact List.mem_cons_self | exact List.mem_append_left _ (by assumption) | apply List.mem_cons_of_mem | apply List.mem_append_right)) | exact Sees.root (hR _ (by omega)) | exact Sees.own (RowsIn.mem (by repeat (first | exact RowsIn.here | exact RowsIn.last | apply RowsIn.there | apply RowsIn.thereS)) _ (by omega)) | exact Sees.own (WRowsIn.mem (by repeat (first | exact WRowsIn.here | exact WRowsIn.last | apply WRowsIn.there | apply WRowsIn.thereS)) _ (by omega))) rfl rfl rfl) ?_
    refine VL.new (.inl rfl) rfl (by decide) (yn_callf rfl known9_SharedL (.cons rfl .nil) (fun w hw => (c_toDesign (by first | exact Sees.root (by assumption) w hw | exact Sees.own (by repeat (first | exact List.mem_cons_self | exact List.mem_append_left _ (by assumption) | apply List.mem_cons_of_mem | apply List.mem_append_right)) w hw) (by first | exact Rws.root (by assumption) hw | exact Rws.own (by repeat (first | exact RowsIn.here | exact RowsIn.last | apply RowsIn.there | apply RowsIn.thereS)) hw) (by first | exact Sees.root (by assumption) w hw | exact Sees.own (by repeat (first | exact List.mem_cons_self | exact List.mem_append_left _ (by assumption) | apply List.mem_cons_of_mem | apply List.mem_append_right)) w hw) (by first | exact Sees.root (by assumption) w hw | exact Sees.own (by repeat (first | exact List.mem_cons_self | exact List.mem_append_left _ (by assumption) | apply List.mem_cons_of_mem | apply List.mem_append_right)) w hw) (by omega)))) ?_
    rintro ⟨⟨b33, f33⟩, ⟨a33, c33⟩, ⟨d33, e33⟩⟩
    refine VL.new1 (.inl rfl) rfl (by decide) (yn_alloc rfl zero30_SharedL rfl) ?_
    intro b9
    refine VL.s (.inl rfl) rfl (yc_store rfl sz30_SharedL rfl rfl (by repeat (first | exact UpdF.here | apply UpdF.there | apply UpdF.thereS)) (.inr ⟨rfl, rfl⟩) rfl (by first | exact Nat.le_of_ble_eq_true rfl | simp) (by decide) rfl) ?_
    rintro ⟨⟩
    refine VL.nil ?_
    refine VE.then_wp ?_
    refine V.seq ?_
    refine V.region ?_
    refine VL.q (.inl rfl) rfl (by decide) (yq_loadS rfl Try.underlying30 sz30_SharedL rfl (by first | exact Sees.root (by assumption) | exact Sees.own (by repeat (first | exact List.mem_cons_self | exact List.mem_append_left _ (by assumption) | apply List.mem_cons_of_mem | apply List.mem_append_right)) | exact Sees.root (hR _ (by omega)) | exact Sees.own (RowsIn.mem (by repeat (first | exact RowsIn.here | exact RowsIn.last | apply RowsIn.there | apply RowsIn.thereS)) _ (by omega)) | exact Sees.own (WRowsIn.mem (by repeat (first | exact WRowsIn.here | exact WRowsIn.last | apply WRowsIn.there | apply WRowsIn.thereS)) _ (by omega))) rfl rfl rfl) ?_
    refine VL.r (.inl rfl) rfl (by decide) (yr_move rfl rfl) ?_
    refine VL.new (.inl rfl) rfl (by decide) (yn_callf rfl known10_SharedL (.cons rfl (.cons rfl .nil)) (fun w hw => (c_implNorm (by first | exact Sees.root (by assumption) w hw | exact Sees.own (by repeat (first | exact List.mem_cons_self | exact List.mem_append_left _ (by assumption) | apply List.mem_cons_of_mem | apply List.mem_append_right)) w hw) (by first | exact Rws.root (by assumption) hw | exact Rws.own (by repeat (first | exact RowsIn.here | exact RowsIn.last | apply RowsIn.there | apply RowsIn.thereS)) hw) (by first | exact Sees.root (by assumption) w hw | exact Sees.own (by repeat (first | exact List.mem_cons_self | exact List.mem_append_left _ (by assumption) | apply List.mem_cons_of_mem | apply List.mem_append_right)) w hw) (by first | exact Sees.root (by assumption) w hw | exact Sees.own (by repeat (first | exact List.mem_cons_self | exact List.mem_append_left _ (by assumption) | apply List.mem_cons_of_mem | apply List.mem_append_right)) w hw) (by omega)))) ?_
    rintro ⟨⟨a37, c37⟩, ⟨d37, e37⟩⟩
    refine VL.r (.inl rfl) rfl (by decide) (yr_move rfl rfl) ?_
    refine VL.r (.inl rfl) rfl (by decide) (yr_extract rfl rfl rfl (by nofun)) ?_
    refine VL.r (.inl rfl) rfl (by decide) (yr_extract rfl rfl rfl (by nofun)) ?_
    refine VL.r (.inl rfl) rfl (by decide) (yr_extract rfl rfl rfl (by nofun)) ?_
    refine VL.r (.inl rfl) rfl (by decide) (yr_assign rfl rfl) ?_
    refine VL.r (.inl rfl) rfl (by decide) (yr_assign rfl rfl) ?_
    refine VL.r (.inl rfl) rfl (by decide) (yr_assign rfl rfl) ?_
    refine VL.nil ?_
    refine VE.then_wp ?_
    refine V.seq ?_
    refine V.seq ?_
    refine V.region ?_
    refine VL.r (.inl rfl) rfl (by decide) (yr_move rfl rfl) ?_
    refine VL.r (.inl rfl) rfl (by decide) (yr_move rfl rfl) ?_
    refine VL.q (.inl rfl) rfl (by decide) (yq_callf rfl known11_SharedL (.cons rfl (.cons rfl .nil)) (fun w hw => c_eqF (by first | exact Sees.root (by assumption) w hw | exact Sees.own (by repeat (first | exact List.mem_cons_self | exact List.mem_append_left _ (by assumption) | apply List.mem_cons_of_mem | apply List.mem_append_right)) w hw) (by first | exact Sees.root (by assumption) w hw | exact Sees.own (by repeat (first | exact List.mem_cons_self | exact List.mem_append_left _ (by assumption) | apply List.mem_cons_of_mem | apply List.mem_append_right)) w hw) (by first | assumption | exact can_up _ | exact can_fop _ _ _ _ | exact can_of _ (by assumption)) (by first | assumption | exact can_up _ | exact can_fop _ _ _ _ | exact can_of _ (by assumption)) (by omega))) ?_
    refine VL.r (.inl rfl) rfl (by decide) (yr_not rfl rfl) ?_
    refine VL.r (.inl rfl) rfl (by decide) (yr_move rfl rfl) ?_
    refine VX.split 45 _ rfl (fun h2 => ?_) (fun h2 => ?_)
    · skip
      replace h2 := bnot_t h2
      first | (exfalso; omega) | (simp [bcmp] at h2; done)
    · skip
      replace h2 := bnot_f h2
      refine VL.r (.inr ⟨_, _, _, rfl, rfl, rfl⟩) rfl (by decide) (yr_move rfl rfl) ?_
      refine VL.r (.inr ⟨_, _, _, rfl, rfl, rfl⟩) rfl (by decide) (yr_move rfl rfl) ?_
      refine VL.q (.inr ⟨_, _, _, rfl, rfl, rfl⟩) rfl (by decide) (yq_callf rfl known11_SharedL (.cons rfl (.cons rfl .nil)) (fun w hw => c_eqF (by first | exact Sees.root (by assumption) w hw | exact Sees.own (by repeat (first | exact List.mem_cons_self | exact List.mem_append_left _ (by assumption) | apply List.mem_cons_of_mem | apply List.mem_append_right)) w hw) (by first | exact Sees.root (by assumption) w hw | exact Sees.own (by repeat (first | exact List.mem_cons_self | exact List.mem_append_left _ (by assumption) | apply List.mem_cons_of_mem | apply List.mem_append_right)) w hw) (by first | assumption | exact can_up _ | exact can_fop _ _ _ _ | exact can_of _ (by assumption)) (by first | assumption | exact can_up _ | exact can_fop _ _ _ _ | exact can_of _ (by assumption)) (by omega))) ?_
      refine VL.r (.inr ⟨_, _, _, rfl, rfl, rfl⟩) rfl (by decide) (yr_not rfl rfl) ?_
      refine VL.r (.inl rfl) rfl (by decide) (yr_pick_f rfl rfl rfl) ?_
      refine VL.r (.inl rfl) rfl (by decide) (yr_move rfl rfl) ?_
      refine VX.split 51 _ rfl (fun h3 => ?_) (fun h3 => ?_)
      · skip
        replace h3 := bnot_t h3
        first | (exfalso; omega) | (simp [bcmp] at h3; done)
      · skip
        replace h3 := bnot_f h3
        refine VL.r (.inr ⟨_, _, _, rfl, rfl, rfl⟩) rfl (by decide) (yr_move rfl rfl) ?_
        refine VL.r (.inr ⟨_, _, _, rfl, rfl, rfl⟩) rfl (by decide) (yr_move rfl rfl) ?_
        refine VL.r (.inr ⟨_, _, _, rfl, rfl, rfl⟩) rfl (by decide) (yr_bcmp rfl Try.underlying4 rfl rfl (.inr rfl)) ?_
        refine VL.r (.inl rfl) rfl (by decide) (yr_pick_f rfl rfl rfl) ?_
        refine VL.nil ?_
        refine VE.then_wp ?_
        refine V.cond rfl (fun h4 => ?_) (fun h4 => ?_)
        · skip
          first | (exfalso; omega) | (simp [bcmp] at h4; done)
        · skip
          refine V.skip ?_
          refine VE.then_wp ?_
          refine V.seq ?_
          refine V.seq ?_
          refine V.draw [(0, 0), (1, 0), (2, 1), (3, 0), (4, 0)] mixed_SharedL (by kernel_rfl) (by intro j o hj; simp at hj) ?_
          refine SW.q rfl (.inl rfl) rfl (by decide) (yq_loadS rfl Try.underlying30 sz30_SharedL rfl (by first | exact Sees.root (by assumption) | exact Sees.own (by repeat (first | exact List.mem_cons_self | exact List.mem_append_left _ (by assumption) | apply List.mem_cons_of_mem | apply List.mem_append_right)) | exact Sees.root (hR _ (by omega)) | exact Sees.own (RowsIn.mem (by repeat (first | exact RowsIn.here | exact RowsIn.last | apply RowsIn.there | apply RowsIn.thereS)) _ (by omega)) | exact Sees.own (WRowsIn.mem (by repeat (first | exact WRowsIn.here | exact WRowsIn.last | apply WRowsIn.there | apply WRowsIn.thereS)) _ (by omega))) rfl rfl rfl) ?_
          refine SW.q rfl (.inl rfl) rfl (by decide) (yq_loadS rfl Try.underlying25 sz25_SharedL rfl (by first | exact Sees.root (by assumption) | exact Sees.own (by repeat (first | exact List.mem_cons_self | exact List.mem_append_left _ (by assumption) | apply List.mem_cons_of_mem | apply List.mem_append_right)) | exact Sees.root (hR _ (by omega)) | exact Sees.own (RowsIn.mem (by repeat (first | exact RowsIn.here | exact RowsIn.last | apply RowsIn.there | apply RowsIn.thereS)) _ (by omega)) | exact Sees.own (WRowsIn.mem (by repeat (first | exact WRowsIn.here | exact WRowsIn.last | apply WRowsIn.there | apply WRowsIn.thereS)) _ (by omega))) rfl rfl rfl) ?_
          refine SW.new rfl (.inl rfl) rfl (by decide) (yn_callf rfl known9_SharedL (.cons rfl .nil) (fun w hw => (c_toDesign (by first | exact Sees.root (by assumption) w hw | exact Sees.own (by repeat (first | exact List.mem_cons_self | exact List.mem_append_left _ (by assumption) | apply List.mem_cons_of_mem | apply List.mem_append_right)) w hw) (by first | exact Rws.root (by assumption) hw | exact Rws.own (by repeat (first | exact RowsIn.here | exact RowsIn.last | apply RowsIn.there | apply RowsIn.thereS)) hw) (by first | exact Sees.root (by assumption) w hw | exact Sees.own (by repeat (first | exact List.mem_cons_self | exact List.mem_append_left _ (by assumption) | apply List.mem_cons_of_mem | apply List.mem_append_right)) w hw) (by first | exact Sees.root (by assumption) w hw | exact Sees.own (by repeat (first | exact List.mem_cons_self | exact List.mem_append_left _ (by assumption) | apply List.mem_cons_of_mem | apply List.mem_append_right)) w hw) (by omega)))) ?_
          rintro ⟨⟨b58, f58⟩, ⟨a58, c58⟩, ⟨d58, e58⟩⟩
          refine SW.q rfl (.inl rfl) rfl (by decide) (yq_callf rfl known12_SharedL (.cons rfl (.cons rfl .nil)) (fun w hw => (c_eqDesign (by first | exact Sees.root (by assumption) w hw | exact Sees.own (by repeat (first | exact List.mem_cons_self | exact List.mem_append_left _ (by assumption) | apply List.mem_cons_of_mem | apply List.mem_append_right)) w hw) (by first | exact Rws.root (by assumption) hw | exact Rws.own (by repeat (first | exact RowsIn.here | exact RowsIn.last | apply RowsIn.there | apply RowsIn.thereS)) hw) (by first | exact Sees.root (by assumption) w hw | exact Sees.own (by repeat (first | exact List.mem_cons_self | exact List.mem_append_left _ (by assumption) | apply List.mem_cons_of_mem | apply List.mem_append_right)) w hw) (by first | exact Sees.root (by assumption) w hw | exact Sees.own (by repeat (first | exact List.mem_cons_self | exact List.mem_append_left _ (by assumption) | apply List.mem_cons_of_mem | apply List.mem_append_right)) w hw) (by first | exact Sees.root (by assumption) w hw | exact Sees.own (by repeat (first | exact List.mem_cons_self | exact List.mem_append_left _ (by assumption) | apply List.mem_cons_of_mem | apply List.mem_append_right)) w hw) (by first | exact Rws.root (by assumption) hw | exact Rws.own (by repeat (first | exact RowsIn.here | exact RowsIn.last | apply RowsIn.there | apply RowsIn.thereS)) hw) (by first | exact Sees.root (by assumption) w hw | exact Sees.own (by repeat (first | exact List.mem_cons_self | exact List.mem_append_left _ (by assumption) | apply List.mem_cons_of_mem | apply List.mem_append_right)) w hw) (by first | exact Sees.root (by assumption) w hw | exact Sees.own (by repeat (first | exact List.mem_cons_self | exact List.mem_append_left _ (by assumption) | apply List.mem_cons_of_mem | apply List.mem_append_right)) w hw) (by assumption) (by assumption) (by assumption) (by assumption) (by assumption) (by assumption) (by omega)))) ?_
          refine SW.r rfl (.inl rfl) rfl (by decide) (yr_not rfl rfl) ?_
          refine SW.done ?_
          refine VE.then_wp ?_
          refine V.cond rfl (fun h5 => ?_) (fun h5 => ?_)
          · skip
            replace h5 := bnot_t h5
            first | (exfalso; omega) | (simp [bcmp] at h5; done)
          · skip
            replace h5 := bnot_f h5
            refine V.skip ?_
            refine VE.then_wp ?_
            refine V.seq ?_
            refine V.region ?_
            refine VL.r (.inl rfl) rfl (by decide) (yr_assign (u := .int .i64 1) rfl rfl) ?_
            refine VL.nil ?_
            refine VE.then_wp ?_
            refine V.seq ?_
            refine V.region ?_
            refine VL.q (.inl rfl) rfl (by decide) (yq_loadS rfl Try.underlying30 sz30_SharedL rfl (by first | exact Sees.root (by assumption) | exact Sees.own (by repeat (first | exact List.mem_cons_self | exact List.mem_append_left _ (by assumption) | apply List.mem_cons_of_mem | apply List.mem_append_right)) | exact Sees.root (hR _ (by omega)) | exact Sees.own (RowsIn.mem (by repeat (first | exact RowsIn.here | exact RowsIn.last | apply RowsIn.there | apply RowsIn.thereS)) _ (by omega)) | exact Sees.own (WRowsIn.mem (by repeat (first | exact WRowsIn.here | exact WRowsIn.last | apply WRowsIn.there | apply WRowsIn.thereS)) _ (by omega))) rfl rfl rfl) ?_
            refine VL.r (.inl rfl) rfl (by decide) (yr_move rfl rfl) ?_
            refine VL.c (.inl rfl) rfl (by decide) (yc_callf rfl known13_SharedL (.cons rfl (.cons rfl .nil)) (by apply Pick.four; all_goals (repeat (first | exact Rem.here | exact Rem.all | exact Rem.hereS | apply Rem.there | apply Rem.thereS))) (c_markDesign (by omega) (by omega) (by omega))) ?_
            rintro ⟨⟩
            refine VL.r (.inl rfl) rfl (by decide) (yr_assign rfl rfl) ?_
            refine VL.nil ?_
            refine VE.then_wp ?_
            refine V.seq ?_
            refine V.seq ?_
            refine V.region ?_
            refine VL.r (.inl rfl) rfl (by decide) (yr_move rfl rfl) ?_
            refine VL.r (.inl rfl) rfl (by decide) (yr_icmp rfl (.inr (.inr (.inl rfl))) rfl rfl) ?_
            refine VL.r (.inl rfl) rfl (by decide) (yr_move rfl rfl) ?_
            refine VX.split 66 _ rfl (fun h6 => ?_) (fun h6 => ?_)
            · skip
              replace h6 := ic_lss h6
              first | (exfalso; omega) | (simp [bcmp] at h6; done)
            · skip
              replace h6 := ic_lss' h6
              refine VL.r (.inr ⟨_, _, _, rfl, rfl, rfl⟩) rfl (by decide) (yr_move rfl rfl) ?_
              refine VL.r (.inr ⟨_, _, _, rfl, rfl, rfl⟩) rfl (by decide) (yr_move rfl rfl) ?_
              refine VL.q (.inr ⟨_, _, _, rfl, rfl, rfl⟩) rfl (by decide) (yq_callf rfl known11_SharedL (.cons rfl (.cons rfl .nil)) (fun w hw => c_eqF (by first | exact Sees.root (by assumption) w hw | exact Sees.own (by repeat (first | exact List.mem_cons_self | exact List.mem_append_left _ (by assumption) | apply List.mem_cons_of_mem | apply List.mem_append_right)) w hw) (by first | exact Sees.root (by assumption) w hw | exact Sees.own (by repeat (first | exact List.mem_cons_self | exact List.mem_append_left _ (by assumption) | apply List.mem_cons_of_mem | apply List.mem_append_right)) w hw) (by first | assumption | exact can_up _ | exact can_fop _ _ _ _ | exact can_of _ (by assumption)) (by first | assumption | exact can_up _ | exact can_fop _ _ _ _ | exact can_of _ (by assumption)) (by omega))) ?_
              refine VL.r (.inr ⟨_, _, _, rfl, rfl, rfl⟩) rfl (by decide) (yr_not rfl rfl) ?_
              refine VL.r (.inl rfl) rfl (by decide) (yr_pick_f rfl rfl rfl) ?_
              refine VL.r (.inl rfl) rfl (by decide) (yr_move rfl rfl) ?_
              refine VX.split 72 _ rfl (fun h7 => ?_) (fun h7 => ?_)
              · skip
                replace h7 := bnot_t h7
                first | (exfalso; omega) | (simp [bcmp] at h7; done)
              · skip
                replace h7 := bnot_f h7
                refine VL.r (.inr ⟨_, _, _, rfl, rfl, rfl⟩) rfl (by decide) (yr_move rfl rfl) ?_
                refine VL.r (.inr ⟨_, _, _, rfl, rfl, rfl⟩) rfl (by decide) (yr_move rfl rfl) ?_
                refine VL.q (.inr ⟨_, _, _, rfl, rfl, rfl⟩) rfl (by decide) (yq_callf rfl known11_SharedL (.cons rfl (.cons rfl .nil)) (fun w hw => c_eqF (by first | exact Sees.root (by assumption) w hw | exact Sees.own (by repeat (first | exact List.mem_cons_self | exact List.mem_append_left _ (by assumption) | apply List.mem_cons_of_mem | apply List.mem_append_right)) w hw) (by first | exact Sees.root (by assumption) w hw | exact Sees.own (by repeat (first | exact List.mem_cons_self | exact List.mem_append_left _ (by assumption) | apply List.mem_cons_of_mem | apply List.mem_append_right)) w hw) (by first | assumption | exact can_up _ | exact can_fop _ _ _ _ | exact can_of _ (by assumption)) (by first | assumption | exact can_up _ | exact can_fop _ _ _ _ | exact can_of _ (by assumption)) (by omega))) ?_
                refine VL.r (.inr ⟨_, _, _, rfl, rfl, rfl⟩) rfl (by decide) (yr_not rfl rfl) ?_
                refine VL.r (.inl rfl) rfl (by decide) (yr_pick_f rfl rfl rfl) ?_
                refine VL.r (.inl rfl) rfl (by decide) (yr_move rfl rfl) ?_
                refine VX.split 78 _ rfl (fun h8 => ?_) (fun h8 => ?_)
                · skip
                  replace h8 := bnot_t h8
                  first | (exfalso; omega) | (simp [bcmp] at h8; done)
                · skip
                  replace h8 := bnot_f h8
                  refine VL.r (.inr ⟨_, _, _, rfl, rfl, rfl⟩) rfl (by decide) (yr_move rfl rfl) ?_
                  refine VL.r (.inr ⟨_, _, _, rfl, rfl, rfl⟩) rfl (by decide) (yr_move rfl rfl) ?_
                  refine VL.r (.inr ⟨_, _, _, rfl, rfl, rfl⟩) rfl (by decide) (yr_bcmp rfl Try.underlying4 rfl rfl (.inr rfl)) ?_
                  refine VL.r (.inl rfl) rfl (by decide) (yr_pick_f rfl rfl rfl) ?_
                  refine VL.nil ?_
                  refine VE.then_wp ?_
                  refine V.cond rfl (fun h9 => ?_) (fun h9 => ?_)
                  · skip
                    first | (exfalso; omega) | (simp [bcmp] at h9; done)
                  · skip
                    refine V.skip ?_
                    refine VE.then_wp ?_
                    refine V.seq ?_
                    refine V.region ?_
                    refine VL.r (.inl rfl) rfl (by decide) (yr_assign (u := .int .i64 1) rfl rfl) ?_
                    refine VL.nil ?_
                    refine VE.then_wp ?_
                    refine V.seq ?_
                    refine V.region ?_
                    refine VL.r (.inl rfl) rfl (by decide) (yr_move rfl rfl) ?_
                    refine VL.r (.inl rfl) rfl (by decide) (yr_move rfl rfl) ?_
                    refine VL.c (.inl rfl) rfl (by decide) (yc_callf rfl known14_SharedL (.cons rfl (.cons rfl .nil)) (by apply Pick.one; repeat (first | exact Rem.here | apply Rem.there | apply Rem.thereS)) (c_markF (by omega) (by omega) (by omega))) ?_
                    rintro ⟨⟩
                    refine VL.r (.inl rfl) rfl (by decide) (yr_assign rfl rfl) ?_
                    refine VL.nil ?_
                    refine VE.then_wp ?_
                    refine V.seq ?_
                    refine V.region ?_
                    refine VL.r (.inl rfl) rfl (by decide) (yr_move rfl rfl) ?_
                    refine VL.r (.inl rfl) rfl (by decide) (yr_move rfl rfl) ?_
                    refine VL.c (.inl rfl) rfl (by decide) (yc_callf rfl known14_SharedL (.cons rfl (.cons rfl .nil)) (by apply Pick.one; repeat (first | exact Rem.here | apply Rem.there | apply Rem.thereS)) (c_markF (by omega) (by omega) (by omega))) ?_
                    rintro ⟨⟩
                    refine VL.r (.inl rfl) rfl (by decide) (yr_assign rfl rfl) ?_
                    refine VL.nil ?_
                    refine VE.then_wp ?_
                    refine V.seq ?_
                    refine V.region ?_
                    refine VL.r (.inl rfl) rfl (by decide) (yr_assign (u := .int .i64 1) rfl rfl) ?_
                    refine VL.nil ?_
                    refine VE.then_wp ?_
                    refine V.seq ?_
                    refine V.region ?_
                    refine VL.r (.inl rfl) rfl (by decide) (yr_move rfl rfl) ?_
                    refine VL.r (.inl rfl) rfl (by decide) (yr_move rfl rfl) ?_
                    refine VL.q (.inl rfl) rfl (by decide) (yq_callf rfl known15_SharedL (.cons rfl (.cons rfl .nil)) (fun w hw => c_heldF (by first | exact Sees.root (by assumption) w hw | exact Sees.own (by repeat (first | exact List.mem_cons_self | exact List.mem_append_left _ (by assumption) | apply List.mem_cons_of_mem | apply List.mem_append_right)) w hw) (by omega) (by omega) (by omega))) ?_
                    refine VL.r (.inl rfl) rfl (by decide) (yr_assign rfl rfl) ?_
                    refine VL.nil ?_
                    refine VE.then_wp ?_
                    refine V.seq ?_
                    refine V.seq ?_
                    refine V.region ?_
                    refine VL.r (.inl rfl) rfl (by decide) (yr_move rfl rfl) ?_
                    refine VL.r (.inl rfl) rfl (by decide) (yr_icmp rfl (.inr (.inr (.inl rfl))) rfl rfl) ?_
                    refine VL.nil ?_
                    refine VE.then_wp ?_
                    refine V.cond rfl (fun h10 => ?_) (fun h10 => ?_)
                    · skip
                      replace h10 := ic_lss h10
                      first | (exfalso; omega) | (simp [bcmp] at h10; done)
                    · skip
                      replace h10 := ic_lss' h10
                      refine V.skip ?_
                      refine VE.then_wp ?_
                      refine V.seq ?_
                      refine V.region ?_
                      refine VL.r (.inl rfl) rfl (by decide) (yr_move rfl rfl) ?_
                      refine VL.r (.inl rfl) rfl (by decide) (yr_move rfl rfl) ?_
                      refine VL.q (.inl rfl) rfl (by decide) (yq_callf rfl known15_SharedL (.cons rfl (.cons rfl .nil)) (fun w hw => c_heldF (by first | exact Sees.root (by assumption) w hw | exact Sees.own (by repeat (first | exact List.mem_cons_self | exact List.mem_append_left _ (by assumption) | apply List.mem_cons_of_mem | apply List.mem_append_right)) w hw) (by omega) (by omega) (by omega))) ?_
                      refine VL.r (.inl rfl) rfl (by decide) (yr_assign rfl rfl) ?_
                      refine VL.nil ?_
                      refine VE.then_wp ?_
                      refine V.seq ?_
                      refine V.seq ?_
                      refine V.region ?_
                      refine VL.r (.inl rfl) rfl (by decide) (yr_move rfl rfl) ?_
                      refine VL.r (.inl rfl) rfl (by decide) (yr_icmp rfl (.inr (.inr (.inl rfl))) rfl rfl) ?_
                      refine VL.nil ?_
                      refine VE.then_wp ?_
                      refine V.cond rfl (fun h11 => ?_) (fun h11 => ?_)
                      · skip
                        replace h11 := ic_lss h11
                        first | (exfalso; omega) | (simp [bcmp] at h11; done)
                      · skip
                        replace h11 := ic_lss' h11
                        refine V.skip ?_
                        refine VE.then_wp ?_
                        refine V.seq ?_
                        refine V.seq ?_
                        refine V.region ?_
                        refine VL.r (.inl rfl) rfl (by decide) (yr_move rfl rfl) ?_
                        refine VL.r (.inl rfl) rfl (by decide) (yr_move rfl rfl) ?_
                        refine VL.r (.inl rfl) rfl (by decide) (yr_icmp rfl (.inr (.inl rfl)) rfl rfl) ?_
                        refine VL.nil ?_
                        refine VE.then_wp ?_
                        refine V.cond rfl (fun h12 => ?_) (fun h12 => ?_)
                        · skip
                          replace h12 := ic_neq h12
                          first | (exfalso; omega) | (simp [bcmp] at h12; done)
                        · skip
                          replace h12 := ic_neq' h12
                          refine V.skip ?_
                          refine VE.then_wp ?_
                          refine V.seq ?_
                          refine V.region ?_
                          refine VL.q (.inl rfl) rfl (by decide) (yq_loadS rfl Try.underlying25 sz25_SharedL rfl (by first | exact Sees.root (by assumption) | exact Sees.own (by repeat (first | exact List.mem_cons_self | exact List.mem_append_left _ (by assumption) | apply List.mem_cons_of_mem | apply List.mem_append_right)) | exact Sees.root (hR _ (by omega)) | exact Sees.own (RowsIn.mem (by repeat (first | exact RowsIn.here | exact RowsIn.last | apply RowsIn.there | apply RowsIn.thereS)) _ (by omega)) | exact Sees.own (WRowsIn.mem (by repeat (first | exact WRowsIn.here | exact WRowsIn.last | apply WRowsIn.there | apply WRowsIn.thereS)) _ (by omega))) rfl rfl rfl) ?_
                          refine VL.new (.inl rfl) rfl (by decide) (yn_callf rfl known9_SharedL (.cons rfl .nil) (fun w hw => (c_toDesign (by first | exact Sees.root (by assumption) w hw | exact Sees.own (by repeat (first | exact List.mem_cons_self | exact List.mem_append_left _ (by assumption) | apply List.mem_cons_of_mem | apply List.mem_append_right)) w hw) (by first | exact Rws.root (by assumption) hw | exact Rws.own (by repeat (first | exact RowsIn.here | exact RowsIn.last | apply RowsIn.there | apply RowsIn.thereS)) hw) (by first | exact Sees.root (by assumption) w hw | exact Sees.own (by repeat (first | exact List.mem_cons_self | exact List.mem_append_left _ (by assumption) | apply List.mem_cons_of_mem | apply List.mem_append_right)) w hw) (by first | exact Sees.root (by assumption) w hw | exact Sees.own (by repeat (first | exact List.mem_cons_self | exact List.mem_append_left _ (by assumption) | apply List.mem_cons_of_mem | apply List.mem_append_right)) w hw) (by omega)))) ?_
                          rintro ⟨⟨b104, f104⟩, ⟨a104, c104⟩, ⟨d104, e104⟩⟩
                          refine VL.r (.inl rfl) rfl (by decide) (yr_move rfl rfl) ?_
                          refine VL.new (.inl rfl) rfl (by decide) (yn_callf rfl known10_SharedL (.cons rfl (.cons rfl .nil)) (fun w hw => (c_implNorm (by first | exact Sees.root (by assumption) w hw | exact Sees.own (by repeat (first | exact List.mem_cons_self | exact List.mem_append_left _ (by assumption) | apply List.mem_cons_of_mem | apply List.mem_append_right)) w hw) (by first | exact Rws.root (by assumption) hw | exact Rws.own (by repeat (first | exact RowsIn.here | exact RowsIn.last | apply RowsIn.there | apply RowsIn.thereS)) hw) (by first | exact Sees.root (by assumption) w hw | exact Sees.own (by repeat (first | exact List.mem_cons_self | exact List.mem_append_left _ (by assumption) | apply List.mem_cons_of_mem | apply List.mem_append_right)) w hw) (by first | exact Sees.root (by assumption) w hw | exact Sees.own (by repeat (first | exact List.mem_cons_self | exact List.mem_append_left _ (by assumption) | apply List.mem_cons_of_mem | apply List.mem_append_right)) w hw) (by omega)))) ?_
                          rintro ⟨⟨a106, c106⟩, ⟨d106, e106⟩⟩
                          refine VL.r (.inl rfl) rfl (by decide) (yr_move rfl rfl) ?_
                          refine VL.r (.inl rfl) rfl (by decide) (yr_extract rfl rfl rfl (by nofun)) ?_
                          refine VL.r (.inl rfl) rfl (by decide) (yr_extract rfl rfl rfl (by nofun)) ?_
                          refine VL.r (.inl rfl) rfl (by decide) (yr_extract rfl rfl rfl (by nofun)) ?_
                          refine VL.r (.inl rfl) rfl (by decide) (yr_assign rfl rfl) ?_
                          refine VL.r (.inl rfl) rfl (by decide) (yr_assign rfl rfl) ?_
                          refine VL.r (.inl rfl) rfl (by decide) (yr_assign rfl rfl) ?_
                          refine VL.nil ?_
                          refine VE.then_wp ?_
                          refine V.seq ?_
                          refine V.seq ?_
                          refine V.region ?_
                          refine VL.r (.inl rfl) rfl (by decide) (yr_move rfl rfl) ?_
                          refine VL.r (.inl rfl) rfl (by decide) (yr_move rfl rfl) ?_
                          refine VL.q (.inl rfl) rfl (by decide) (yq_callf rfl known11_SharedL (.cons rfl (.cons rfl .nil)) (fun w hw => c_eqF (by first | exact Sees.root (by assumption) w hw | exact Sees.own (by repeat (first | exact List.mem_cons_self | exact List.mem_append_left _ (by assumption) | apply List.mem_cons_of_mem | apply List.mem_append_right)) w hw) (by first | exact Sees.root (by assumption) w hw | exact Sees.own (by repeat (first | exact List.mem_cons_self | exact List.mem_append_left _ (by assumption) | apply List.mem_cons_of_mem | apply List.mem_append_right)) w hw) (by first | assumption | exact can_up _ | exact can_fop _ _ _ _ | exact can_of _ (by assumption)) (by first | assumption | exact can_up _ | exact can_fop _ _ _ _ | exact can_of _ (by assumption)) (by omega))) ?_
                          refine VL.r (.inl rfl) rfl (by decide) (yr_not rfl rfl) ?_
                          refine VL.r (.inl rfl) rfl (by decide) (yr_move rfl rfl) ?_
                          refine VX.split 114 _ rfl (fun h13 => ?_) (fun h13 => ?_)
                          · skip
                            replace h13 := bnot_t h13
                            first | (exfalso; omega) | (simp [bcmp] at h13; done)
                          · skip
                            replace h13 := bnot_f h13
                            refine VL.r (.inr ⟨_, _, _, rfl, rfl, rfl⟩) rfl (by decide) (yr_move rfl rfl) ?_
                            refine VL.r (.inr ⟨_, _, _, rfl, rfl, rfl⟩) rfl (by decide) (yr_move rfl rfl) ?_
                            refine VL.q (.inr ⟨_, _, _, rfl, rfl, rfl⟩) rfl (by decide) (yq_callf rfl known11_SharedL (.cons rfl (.cons rfl .nil)) (fun w hw => c_eqF (by first | exact Sees.root (by assumption) w hw | exact Sees.own (by repeat (first | exact List.mem_cons_self | exact List.mem_append_left _ (by assumption) | apply List.mem_cons_of_mem | apply List.mem_append_right)) w hw) (by first | exact Sees.root (by assumption) w hw | exact Sees.own (by repeat (first | exact List.mem_cons_self | exact List.mem_append_left _ (by assumption) | apply List.mem_cons_of_mem | apply List.mem_append_right)) w hw) (by first | assumption | exact can_up _ | exact can_fop _ _ _ _ | exact can_of _ (by assumption)) (by first | assumption | exact can_up _ | exact can_fop _ _ _ _ | exact can_of _ (by assumption)) (by omega))) ?_
                            refine VL.r (.inr ⟨_, _, _, rfl, rfl, rfl⟩) rfl (by decide) (yr_not rfl rfl) ?_
                            refine VL.r (.inl rfl) rfl (by decide) (yr_pick_f rfl rfl rfl) ?_
                            refine VL.r (.inl rfl) rfl (by decide) (yr_move rfl rfl) ?_
                            refine VX.split 120 _ rfl (fun h14 => ?_) (fun h14 => ?_)
                            · skip
                              replace h14 := bnot_t h14
                              first | (exfalso; omega) | (simp [bcmp] at h14; done)
                            · skip
                              replace h14 := bnot_f h14
                              refine VL.r (.inr ⟨_, _, _, rfl, rfl, rfl⟩) rfl (by decide) (yr_move rfl rfl) ?_
                              refine VL.r (.inr ⟨_, _, _, rfl, rfl, rfl⟩) rfl (by decide) (yr_move rfl rfl) ?_
                              refine VL.r (.inr ⟨_, _, _, rfl, rfl, rfl⟩) rfl (by decide) (yr_bcmp rfl Try.underlying4 rfl rfl (.inr rfl)) ?_
                              refine VL.r (.inl rfl) rfl (by decide) (yr_pick_f rfl rfl rfl) ?_
                              refine VL.nil ?_
                              refine VE.then_wp ?_
                              refine V.cond rfl (fun h15 => ?_) (fun h15 => ?_)
                              · skip
                                first | (exfalso; omega) | (simp [bcmp] at h15; done)
                              · skip
                                refine V.skip ?_
                                refine VE.then_wp ?_
                                refine V.seq ?_
                                refine V.region ?_
                                refine VL.r (.inl rfl) rfl (by decide) (yr_assign (u := .int .i64 1) rfl rfl) ?_
                                refine VL.nil ?_
                                refine VE.then_wp ?_
                                refine V.seq ?_
                                refine V.region ?_
                                refine VL.r (.inl rfl) rfl (by decide) (yr_move rfl rfl) ?_
                                refine VL.r (.inl rfl) rfl (by decide) (yr_move rfl rfl) ?_
                                refine VL.q (.inl rfl) rfl (by decide) (yq_callf rfl known15_SharedL (.cons rfl (.cons rfl .nil)) (fun w hw => c_heldF (by first | exact Sees.root (by assumption) w hw | exact Sees.own (by repeat (first | exact List.mem_cons_self | exact List.mem_append_left _ (by assumption) | apply List.mem_cons_of_mem | apply List.mem_append_right)) w hw) (by omega) (by omega) (by omega))) ?_
                                refine VL.r (.inl rfl) rfl (by decide) (yr_assign rfl rfl) ?_
                                refine VL.nil ?_
                                refine VE.then_wp ?_
                                refine V.seq ?_
                                refine V.seq ?_
                                refine V.region ?_
                                refine VL.r (.inl rfl) rfl (by decide) (yr_move rfl rfl) ?_
                                refine VL.r (.inl rfl) rfl (by decide) (yr_icmp rfl (.inr (.inr (.inl rfl))) rfl rfl) ?_
                                refine VL.nil ?_
                                refine VE.then_wp ?_
                                refine V.cond rfl (fun h16 => ?_) (fun h16 => ?_)
                                · skip
                                  replace h16 := ic_lss h16
                                  first | (exfalso; omega) | (simp [bcmp] at h16; done)
                                · skip
                                  replace h16 := ic_lss' h16
                                  refine V.skip ?_
                                  refine VE.then_wp ?_
                                  refine V.seq ?_
                                  refine V.region ?_
                                  refine VL.r (.inl rfl) rfl (by decide) (yr_move rfl rfl) ?_
                                  refine VL.r (.inl rfl) rfl (by decide) (yr_move rfl rfl) ?_
                                  refine VL.q (.inl rfl) rfl (by decide) (yq_callf rfl known15_SharedL (.cons rfl (.cons rfl .nil)) (fun w hw => c_heldF (by first | exact Sees.root (by assumption) w hw | exact Sees.own (by repeat (first | exact List.mem_cons_self | exact List.mem_append_left _ (by assumption) | apply List.mem_cons_of_mem | apply List.mem_append_right)) w hw) (by omega) (by omega) (by omega))) ?_
                                  refine VL.r (.inl rfl) rfl (by decide) (yr_assign rfl rfl) ?_
                                  refine VL.nil ?_
                                  refine VE.then_wp ?_
                                  refine V.seq ?_
                                  refine V.seq ?_
                                  refine V.region ?_
                                  refine VL.r (.inl rfl) rfl (by decide) (yr_move rfl rfl) ?_
                                  refine VL.r (.inl rfl) rfl (by decide) (yr_icmp rfl (.inr (.inr (.inl rfl))) rfl rfl) ?_
                                  refine VL.nil ?_
                                  refine VE.then_wp ?_
                                  refine V.cond rfl (fun h17 => ?_) (fun h17 => ?_)
                                  · skip
                                    replace h17 := ic_lss h17
                                    first | (exfalso; omega) | (simp [bcmp] at h17; done)
                                  · skip
                                    replace h17 := ic_lss' h17
                                    refine V.skip ?_
                                    refine VE.then_wp ?_
                                    refine V.seq ?_
                                    refine V.seq ?_
                                    refine V.region ?_
                                    refine VL.r (.inl rfl) rfl (by decide) (yr_move rfl rfl) ?_
                                    refine VL.r (.inl rfl) rfl (by decide) (yr_move rfl rfl) ?_
                                    refine VL.r (.inl rfl) rfl (by decide) (yr_icmp rfl (.inr (.inl rfl)) rfl rfl) ?_
                                    refine VL.nil ?_
                                    refine VE.then_wp ?_
                                    refine V.cond rfl (fun h18 => ?_) (fun h18 => ?_)
                                    · skip
                                      replace h18 := ic_neq h18
                                      first | (exfalso; omega) | (simp [bcmp] at h18; done)
                                    · skip
                                      replace h18 := ic_neq' h18
                                      refine V.skip ?_
                                      refine VE.then_wp ?_
                                      refine V.seq ?_
                                      refine V.region ?_
                                      refine VL.r (.inl rfl) rfl (by decide) (yr_assign (u := .bool true) rfl rfl) ?_
                                      refine VL.nil ?_
                                      refine VE.then_wp ?_
                                      refine V.ret ?_
                                      refine ret1 rfl rfl (fun w1 hw => ?_)
                                      exact ⟨rfl, hw.below⟩

end Go.Proofs.Ytgeflnjjppgooaa.Q


namespace Go.Proofs.Ytgeflnjjppgooaa.Y
open Go Go.Conc Go.RowKit Go.Proofs.Ytgeflnjjppgooaa Go.Proofs.Ytgeflnjjppgooaa.Q
open Go.ConcR (KK wgBlock WgAt stA smA rd wr mk Payload DC0)
open Go.ConcN (WgLive PayAt Has RW DWs AtR0 WSit WD upd upd_same upd_ne)

/-- All views: the starter's has number 0, worker i's number i + 1. -/
structure VI (Bad : Nat → Prop) (B0 j : Nat) (V : Nat → World) (w : World) : Prop where
  view : ∀ x, x ≤ j → View (V x) w
  ex : ∀ x y, x ≤ j → y ≤ j → x ≠ y → ∀ b, Liv (V x) b → ¬ Rdb (V y) b
  bad : ∀ x, x ≤ j → ∀ b, Bad b → ¬ Rdb (V x) b
  low : ∀ x, x ≤ j → ∀ b, b < B0 → ¬ Liv (V x) b

section
variable {Bad : Nat → Prop} {B0 j : Nat} {V : Nat → World} {w w' : World}
theorem VI.step (h : VI Bad B0 j V w) {x : Nat} (hx : x ≤ j) {v' : World} (hc : Chg (V x) v' w w') (hb : ∀ b, Bad b → b < w.heap.size) (h0 : B0 ≤ w.heap.size) :
    VI Bad B0 j (fun y => if y = x then v' else up (V y) w') w' := by
  have hv := h.view x hx
  have hs : (V x).heap.size = w.heap.size := hv.size
  have pick : ∀ (Q : World → Prop) y, Q v' → Q (up (V y) w') → Q (if y = x then v' else up (V y) w') := fun Q y h1 h2 => by split <;> assumption
  refine ⟨fun y hy => ?_, fun y z hy hz hne b hl hr => ?_, fun y hy b hbb hr => ?_, fun y hy b hlt hl => ?_⟩
  · by_cases e : y = x
    · simp only [if_pos e]; exact hc.view
    · simp only [if_neg e]
      exact view_other hc hv (h.view y hy) (h.ex x y hx hy (Ne.symm e))
  · by_cases e : y = x
    · subst e
      simp only at hl
      simp only [if_neg (Ne.symm hne), rdb_up] at hr
      have hlt := rdb_lt hr
      have hz' := (h.view z hz).size
      exact h.ex y z hy hz hne b (hc.liv (by omega) hl) hr
    · simp only [if_neg e, liv_up] at hl
      have hlt := liv_lt hl
      have hy' := (h.view y hy).size
      by_cases e2 : z = x
      · subst e2
        simp only at hr
        exact h.ex y z hy hz hne b hl (hc.rdb (by omega) hr)
      · simp only [if_neg e2, rdb_up] at hr
        exact h.ex y z hy hz hne b hl hr
  · by_cases e : y = x
    · subst e
      simp only at hr
      exact h.bad y hy b hbb (hc.rdb (by have := hb b hbb; omega) hr)
    · simp only [if_neg e, rdb_up] at hr
      exact h.bad y hy b hbb hr
  · by_cases e : y = x
    · subst e
      simp only at hl
      exact h.low y hy b hlt (hc.liv (by omega) hl)
    · simp only [if_neg e, liv_up] at hl
      exact h.low y hy b hlt hl
/-- The world turns where nobody looks. -/
theorem VI.aside (h : VI Bad B0 j V w) (hv : ∀ x, x ≤ j → View (up (V x) w') w') : VI Bad B0 j (fun y => up (V y) w') w' :=
  ⟨hv, fun y z hy hz hne b hl hr => h.ex y z hy hz hne b (liv_up.1 hl) (rdb_up.1 hr), fun y hy b hbb hr => h.bad y hy b hbb (rdb_up.1 hr), fun y hy b hlt hl => h.low y hy b hlt (liv_up.1 hl)⟩
/-- .. in one block. -/
theorem VI.block (h : VI Bad B0 j V w) {b : Nat} {d d' : Array Value} {ty : TypeId} {z z' : Nat × Nat} (hw : w.heap[b]? = some (.cells d ty z)) (hd : d ≠ #[]) (hw' : w'.heap[b]? = some (.cells d' ty z')) (oth : ∀ k, k ≠ b → w'.heap[k]? = w.heap[k]?)
    (hs : w'.heap.size = w.heap.size) (h1 : w'.tape = w.tape) (h2 : w'.os = w.os) (h3 : w'.output = w.output) (hn : ∀ x, x ≤ j → ¬ Rdb (V x) b) : VI Bad B0 j (fun y => up (V y) w') w' :=
  h.aside fun x hx => view_block (h.view x hx) hw hd hw' oth hs h1 h2 h3 (hn x hx)
theorem VI.at (h : VI Bad B0 j V w) (d : Nat) : VI Bad B0 j (fun y => up (V y) (w.at d)) (w.at d) := h.aside fun x hx => view_same (h.view x hx) rfl rfl rfl rfl
end

/-! ### the world -/
structure WI (D : Sc) (wb : World) (j : Nat) (σ : Nat → List (Addr × Value)) (st sm : Int) (w : World) : Prop where
  wg : WgAt D.ty D.Wg w st sm
  arrs : ∀ b d ty z, D.arr b = true → D.vb.heap[b]? = some (.cells d ty z) → ∃ d', w.heap[b]? = some (.cells d' ty z) ∧ d'.size = d.size
  sig : ∀ i, i < j → ∀ p ∈ σ i, D.own i p.1 ∧ w.cell? p.1 = some p.2
  old : ∀ b, b < D.vb.heap.size → b ≠ D.Wg → D.arr b = false → w.heap[b]? = wb.heap[b]?
  tape : w.tape = wb.tape
  os : w.os = wb.os
  output : w.output = wb.output
  size : D.vb.heap.size ≤ w.heap.size
  wgB : D.Wg < D.vb.heap.size
  pay : w.heap[D.c]? = some (.cells #[D.x] D.ety)
section
variable {D : Sc} {wb : World} {j : Nat} {σ : Nat → List (Addr × Value)} {st sm st' sm' : Int} {w w' : World}
theorem arr_lt (h : PhOk D) {b : Nat} (hb : D.arr b = true) : b < D.vb.heap.size := by
  obtain ⟨_, c, ty, h1⟩ := h.arr b hb
  exact (Array.getElem?_eq_some_iff.1 h1).1
theorem cell_same {w w' : World} {a : Addr} (h : w'.heap[a.block]? = w.heap[a.block]?) : w'.cell? a = w.cell? a := by simp only [World.cell?, h]
/-- All that is protected stands. -/
theorem WI.same (h : WI D wb j σ st sm w) (O : PhOk D) (hg : WgAt D.ty D.Wg w' st' sm') (ha : ∀ b, D.arr b = true → w'.heap[b]? = w.heap[b]?)
    (ho : ∀ b, b < D.vb.heap.size → b ≠ D.Wg → D.arr b = false → w'.heap[b]? = w.heap[b]?) (hs : w.heap.size ≤ w'.heap.size) (h1 : w'.tape = w.tape) (h2 : w'.os = w.os) (h3 : w'.output = w.output) : WI D wb j σ st' sm' w' := by
  refine ⟨hg, fun b d ty z hb hd => ?_, fun i hi p hp => ?_, fun b hb h4 h5 => (ho b hb h4 h5).trans (h.old b hb h4 h5), h1.trans h.tape, h2.trans h.os, h3.trans h.output, Nat.le_trans h.size hs, h.wgB, ?_⟩
  · rw [ha b hb]; exact h.arrs b d ty z hb hd
  · obtain ⟨e1, e2⟩ := h.sig i hi p hp
    exact ⟨e1, (cell_same (ha _ (O.own i _ e1).1)).trans e2⟩
  · exact (ho D.c (Array.getElem?_eq_some_iff.1 O.c.2.2).1 O.c.1 O.c.2.1).trans h.pay
theorem WI.has (h : WI D wb j σ st sm w) : Has D.c 0 D.x w := by simp [Has, World.cell?, h.pay]
theorem WI.live (h : WI D wb j σ st sm w) : WgLive D.ty D.Wg w := ⟨st, sm, h.wg⟩
/-- What a worker on its way out suffers. -/
theorem WI.rw (h : WI D wb j σ st sm w) {σ' : Nat → List (Addr × Value)} (h' : WI D wb j σ' st' sm' w') : @RW D.pay D.ty D.Wg D.c 1 0 0 w w' :=
  letI := D.pay
  ⟨fun b hb => absurd hb (Nat.not_lt_zero b), fun _ => h'.live, fun ⟨cs, e1, e2⟩ => ⟨cs, (h'.pay.trans h.pay.symm).trans e1, e2⟩, cell_same (h'.pay.trans h.pay.symm)⟩
theorem WI.rl (h' : WI D wb j σ st' sm' w') : RL D.ty D.Wg w w' := fun _ => h'.live
/-- A step of goroutine's x in its own view. -/
theorem WI.step {Bad : Nat → Prop} {V : Nat → World} (h : WI D wb j σ st sm w) (O : PhOk D) (hV : VI Bad D.vb.heap.size j V w) (hbad : ∀ b, b = D.Wg ∨ D.arr b = true → Bad b) {y : Nat} (hy : y ≤ j) {v' : World} (hc : Chg (V y) v' w w') :
    WI D wb j σ st sm w' := by
  have hsz := (hV.view y hy).size
  have keep : ∀ b, b < w.heap.size → ¬ Liv (V y) b → w'.heap[b]? = w.heap[b]? := fun b hb hn => (hc.keep b (by omega) hn).2
  have r0 := (hV.view y hy).rest
  have r1 := hc.view.rest
  have hs := h.size
  refine h.same O ?_ (fun b hb => ?_) (fun b hb h1 h2 => keep b (by omega) (hV.low y hy b hb)) ?_ ?_ ?_ ?_
  · exact h.wg.of_block (keep _ (by have := h.wgB; omega) fun hl => hV.bad y hy _ (hbad _ (.inl rfl)) hl.rdb)
  · exact keep b (by have := arr_lt O hb; omega) fun hl => hV.bad y hy _ (hbad _ (.inr hb)) hl.rdb
  · rw [← hc.view.size, ← hsz]; exact hc.grow
  · rw [r1, r0]; exact hc.tape
  · rw [r1, r0]; exact hc.os
  · rw [r1, r0]; exact hc.output
end
end Go.Proofs.Ytgeflnjjppgooaa.Y

