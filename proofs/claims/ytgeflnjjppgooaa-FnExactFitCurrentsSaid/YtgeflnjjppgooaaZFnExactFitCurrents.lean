/- Proved here: laws.FnExactFitCurrents returns true for every input, and each argument reads behind the call as it read before. Conditions: none beyond the row's own. -/
import Derived.Test.YtgeflnjjppgooaaRows
import Derived.Conc.LeavingOf
import Derived.Conc.Holds
import Derived.Test.YtgeflnjjppgooaaKFnExactFitCurrents10
namespace Go.Proofs.Ytgeflnjjppgooaa
open Go.ChangeShapes Go.WideShapes Go.ChangeAt Go.RowKit Go.Conc
namespace SFnExactFitCurrents
theorem args_eq {args : Array Value} {l : List Value} (h : args.toList = l) : args = l.toArray := by cases args; cases h; rfl
theorem own : ownKnob Try.prog.godebug = none := by kernel_rfl
theorem laidOut : laidOutB Try.prog = true := by kernel_rfl
theorem cells25 : Try.prog.cellsOf 25 = 3 := by kernel_rfl
theorem cells23 : Try.prog.cellsOf 23 = 1 := by kernel_rfl
theorem cells26 : Try.prog.cellsOf 26 = 1 := by kernel_rfl
set_option maxRecDepth 100000 in
theorem contract (H : Type) (enc : TypeId × Value → H) (W : World) (base : Nat) (args : Array Value) (ds gs : List (DataW H)) (before : List MemPlace)
    (hval : ∀ (j : Nat) t v, Try.f5.params[j]? = some t → args[j]? = some v → Value.okWide Try.prog W .any base t v)
    (hW : DataW.Whole enc Try.prog Try.f5.params.toList Rows.fnExactFitCurrentsSpec.vars false W args.toList ds gs before) :
    ∃ M last o w' t', runNT Try.checked.prog (M + 1) (solo (G (Frame.enter Try.checked.prog 5 args .normal) []) W) #[] = (.ended o w', t') ∧ runN Try.checked.prog M (solo (G (Frame.enter Try.checked.prog 5 args .normal) []) W) = .next last ∧ step Try.checked.prog last = .ended o w' ∧
      Conc.Good Try.checked.prog (fun v W' => Rows.fnExactFitCurrentsSpec.post enc Try.prog Try.f5 false true false false W args v W') last o w' t' := by
  have hW' := hW
  obtain ⟨p, q, hA, hV, rfl, hfz, hnd⟩ := hW
  obtain ⟨rfl, rfl⟩ := trodVars_none hV
  have hP := hW'
  rw [Try.params5] at hA hval
  obtain ⟨v0, vs0, d0, ds0, p0, q0, e0, rfl, rfl, g0, r0⟩ := trodAll_cons hA
  obtain ⟨v1, vs1, d1, ds1, p1, q1, e1, rfl, rfl, g1, r1⟩ := trodAll_cons r0
  obtain ⟨rfl, rfl, rfl⟩ := trodAll_nil r1
  subst e1
  obtain rfl : args = #[v0, v1] := args_eq e0
  obtain ⟨n0, hn0⟩ := g0
  obtain ⟨s0, rfl, hz0⟩ := okWide_struct Try.underlying25 (hval 0 25 _ rfl rfl)
  obtain ⟨_, hf0⟩ := trod_field Try.underlying25 hn0
  obtain ⟨l0⟩ := s0
  rw [cells25] at hz0
  replace hz0 : l0.length = 3 := hz0
  obtain ⟨z0_0, z0_1, z0_2, rfl⟩ : ∃ z0_0 z0_1 z0_2, l0 = [z0_0, z0_1, z0_2] := by
      match l0, hz0 with
      | [z0_0, z0_1, z0_2], _ => exact ⟨_, _, _, rfl⟩
  obtain ⟨y0_0, m0_0, hy0_0⟩ := hf0 0 _ rfl
  replace hy0_0 : DataW.trod enc Try.prog W 0 (fun _ => true) true m0_0 22 [z0_0] = some y0_0 := hy0_0
  obtain ⟨a0_0, f0_0, xs0_0, c0_0, hc0_0, hA0_0, hR0_0, hX0_0, hm0_0, hr0_0⟩ := trod_rows Try.underlying22 Try.underlying23 Try.underlying26 cells23 cells26 hy0_0
  simp only [List.cons.injEq, and_true] at hc0_0
  subst hc0_0
  obtain ⟨y0_1, m0_1, hy0_1⟩ := hf0 1 _ rfl
  replace hy0_1 : DataW.trod enc Try.prog W 0 (fun _ => true) true m0_1 23 [z0_1] = some y0_1 := hy0_1
  obtain ⟨a0_1, xs0_1, c0_1, hc0_1, hA0_1, hX0_1, hm0_1⟩ := trod_fls Try.underlying23 Try.underlying26 cells26 hy0_1
  simp only [List.cons.injEq, and_true] at hc0_1
  subst hc0_1
  obtain ⟨y0_2, m0_2, hy0_2⟩ := hf0 2 _ rfl
  replace hy0_2 : DataW.trod enc Try.prog W 0 (fun _ => true) true m0_2 23 [z0_2] = some y0_2 := hy0_2
  obtain ⟨a0_2, xs0_2, c0_2, hc0_2, hA0_2, hX0_2, hm0_2⟩ := trod_fls Try.underlying23 Try.underlying26 cells26 hy0_2
  simp only [List.cons.injEq, and_true] at hc0_2
  subst hc0_2
  obtain ⟨u1, rfl, _, _, wu1⟩ := open_float Try.underlying26 (hval 1 26 _ rfl rfl) g1
  refine Y.runs_to (P := Try.prog) (Post := fun v => cn v = .bool true) Try.func5 (by kernel_rfl) rfl (fun v W' hv hb => ?_) (Q.law_Fit (c := c0_0) (c1 := c0_1) (c2 := c0_2) (x := cb .f32 u1) (Y.selfV_cl hA0_0) (fun i hi => Y.selfV_cl (hR0_0 i hi)) (Y.selfV_cl hA0_1) (Y.selfV_cl hA0_2) hX0_0 hX0_1 hX0_2 hm0_0 hr0_0 hm0_1 hm0_2 _ (by first | rfl | (simp [cn, cn1, cn0]; done)))
  obtain rfl := cn_bool hv
  exact law_post laidOut (by kernel_rfl) (by kernel_rfl) Try.underlying4 rfl rfl hP hb
set_option maxRecDepth 100000 in
theorem lifted (os : Os) (started : os.Started) (H : Type) (enc : TypeId × Value → H) :
    ReturnsInLeavingWide {} Try.checked os 5 .any (Rows.fnExactFitCurrentsSpec.pre6 enc Try.prog Try.f5 Rows.fnExactFitCurrentsRow.domain false) (Rows.fnExactFitCurrentsSpec.post enc Try.prog Try.f5 false true false false) := by
  refine returnsInLeavingWide_of_change_sized (C := Try.checked) own started Try.func5
    (ChangeSpec.witness6 (enc := enc) (C := Try.checked) false ⟨#[], #[.agg #[.slice none 0 0, .slice none 0 0, .slice none 0 0], .float .f32 0], []⟩ 8 (by kernel_rfl) (by kernel_rfl) (by kernel_rfl) (by kernel_rfl)) ?_
  intro W base args ds gs before hval hW _ _ _
  exact contract H enc W base args ds gs before hval hW
theorem proved : Rows.FnExactFitCurrentsSaid :=
  OpenClaim.holds_of_wide_leaving 5 Try.f5 rfl rfl rfl rfl rfl rfl rfl ⟨rfl, rfl, rfl, rfl, rfl⟩ rfl rfl rfl rfl rfl (by kernel_rfl) Try.func5 (by kernel_rfl)
    (of_decide_eq_true (by kernel_rfl)) (by unfold Func.isWrapper; first | (rw [if_pos (by decide +kernel)]; kernel_rfl) | (rw [if_neg (by decide +kernel)]; exact ⟨rfl, rfl⟩))
    (fun os started H enc _ => lifted os started H enc)
end SFnExactFitCurrents
end Go.Proofs.Ytgeflnjjppgooaa

