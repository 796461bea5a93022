/- Proved here: laws.FnFitted returns true for every input, and each argument reads behind the call as it read before. Conditions: none beyond the row's own. -/
import Derived.Test.YtgeflnjjppgooaaRows
import Derived.Conc.LeavingOf
import Derived.Conc.Holds
import Derived.Test.YtgeflnjjppgooaaKFnFitted11
namespace Go.Proofs.Ytgeflnjjppgooaa
open Go.ChangeShapes Go.WideShapes Go.ChangeAt Go.RowKit Go.Conc
namespace SFnFitted
theorem args_eq {args : Array Value} {l : List Value} (h : args.toList = l) : args = l.toArray := by cases args; cases h; rfl
theorem own : ownKnob Try.prog.godebug = none := by kernel_rfl
theorem laidOut : laidOutB Try.prog = true := by kernel_rfl
theorem cells5 : Try.prog.cellsOf 5 = 1 := by kernel_rfl
set_option maxRecDepth 100000 in
theorem contract (H : Type) (enc : TypeId × Value → H) (W : World) (base : Nat) (args : Array Value) (ds gs : List (DataW H)) (before : List MemPlace)
    (hval : ∀ (j : Nat) t v, Try.f6.params[j]? = some t → args[j]? = some v → Value.okWide Try.prog W .any base t v)
    (hW : DataW.Whole enc Try.prog Try.f6.params.toList Rows.fnFittedSpec.vars false W args.toList ds gs before) :
    ∃ M last o w' t', runNT Try.checked.prog (M + 1) (solo (G (Frame.enter Try.checked.prog 6 args .normal) []) W) #[] = (.ended o w', t') ∧ runN Try.checked.prog M (solo (G (Frame.enter Try.checked.prog 6 args .normal) []) W) = .next last ∧ step Try.checked.prog last = .ended o w' ∧
      Conc.Good Try.checked.prog (fun v W' => Rows.fnFittedSpec.post enc Try.prog Try.f6 false true false false W args v W') last o w' t' := by
  have hW' := hW
  obtain ⟨p, q, hA, hV, rfl, hfz, hnd⟩ := hW
  obtain ⟨rfl, rfl⟩ := trodVars_none hV
  have hP := hW'
  rw [Try.params6] at hA hval
  obtain ⟨v0, vs0, d0, ds0, p0, q0, e0, rfl, rfl, g0, r0⟩ := trodAll_cons hA
  obtain ⟨v1, vs1, d1, ds1, p1, q1, e1, rfl, rfl, g1, r1⟩ := trodAll_cons r0
  obtain ⟨rfl, rfl, rfl⟩ := trodAll_nil r1
  subst e1
  obtain rfl : args = #[v0, v1] := args_eq e0
  obtain ⟨a0, xs0, c0, rfl, hA0, hX0⟩ := open_u8s Try.underlying41 Try.underlying5 cells5 (hval 0 41 _ rfl rfl) g0
  obtain ⟨a1, xs1, c1, rfl, hA1, hX1⟩ := open_u8s Try.underlying41 Try.underlying5 cells5 (hval 1 41 _ rfl rfl) g1
  refine Y.runs_to (P := Try.prog) (Post := fun v => cn v = .bool true) Try.func6 (by kernel_rfl) rfl (fun v W' hv hb => ?_) (Q.law_Fitted (Y.selfV_cl hA0) (Y.selfV_cl hA1) hX0 hX1 _ (by first | rfl | (simp [cn, cn1, cn0]; done)))
  obtain rfl := cn_bool hv
  exact law_post laidOut (by kernel_rfl) (by kernel_rfl) Try.underlying4 rfl rfl hP hb
set_option maxRecDepth 100000 in
theorem lifted (os : Os) (started : os.Started) (H : Type) (enc : TypeId × Value → H) :
    ReturnsInLeavingWide {} Try.checked os 6 .any (Rows.fnFittedSpec.pre6 enc Try.prog Try.f6 Rows.fnFittedRow.domain false) (Rows.fnFittedSpec.post enc Try.prog Try.f6 false true false false) := by
  refine returnsInLeavingWide_of_change_sized (C := Try.checked) own started Try.func6
    (ChangeSpec.witness6 (enc := enc) (C := Try.checked) false ⟨#[], #[.slice none 0 0, .slice none 0 0], []⟩ 8 (by kernel_rfl) (by kernel_rfl) (by kernel_rfl) (by kernel_rfl)) ?_
  intro W base args ds gs before hval hW _ _ _
  exact contract H enc W base args ds gs before hval hW
theorem proved : Rows.FnFittedSaid :=
  OpenClaim.holds_of_wide_leaving 6 Try.f6 rfl rfl rfl rfl rfl rfl rfl ⟨rfl, rfl, rfl, rfl, rfl⟩ rfl rfl rfl rfl rfl (by kernel_rfl) Try.func6 (by kernel_rfl)
    (of_decide_eq_true (by kernel_rfl)) (by unfold Func.isWrapper; first | (rw [if_pos (by decide +kernel)]; kernel_rfl) | (rw [if_neg (by decide +kernel)]; exact ⟨rfl, rfl⟩))
    (fun os started H enc _ => lifted os started H enc)
end SFnFitted
end Go.Proofs.Ytgeflnjjppgooaa

