/- Proved here: laws.FnExactNewDesk returns true for every input, and each argument reads behind the call as it read before. Conditions: none beyond the row's own. -/
import Derived.Test.YtacjcomjnabmhaaRows
import Derived.Test.YtacjcomjnabmhaaShut
import Derived.Test.YtacjcomjnabmhaaWNewD
namespace Go.Proofs.Ytacjcomjnabmhaa
open Go.ChangeShapes Go.WideShapes Go.ChangeAt Go.RowKit
namespace SFnExactNewDesk
theorem args_eq {args : Array Value} {l : List Value} (h : args.toList = l) : args = l.toArray := by cases args; cases h; rfl
theorem own : ownKnob Try.prog.godebug = none := by kernel_rfl
theorem laidOut : laidOutB Try.prog = true := by kernel_rfl
set_option maxRecDepth 100000 in
theorem contract (H : Type) (enc : TypeId × Value → H) (W : World) (base : Nat) (args : Array Value) (ds gs : List (DataW H)) (before : List MemPlace)
    (hval : ∀ (j : Nat) t v, Try.f7.params[j]? = some t → args[j]? = some v → Value.okWide Try.prog W .any base t v)
    (hW : DataW.Whole enc Try.prog Try.f7.params.toList Rows.fnExactNewDeskSpec.vars false W args.toList ds gs before) :
    Calls Try.prog 7 args W fun e W' => ∃ v, e = .returned v ∧ Rows.fnExactNewDeskSpec.post enc Try.prog Try.f7 false true false false W args v W' := by
  have hW' := hW
  obtain ⟨p, q, hA, hV, rfl, hfz, hnd⟩ := hW
  obtain ⟨rfl, rfl⟩ := trodVars_none hV
  have hP := hW'
  rw [Try.params7] at hA hval
  obtain ⟨e0, rfl, rfl⟩ := trodAll_nil hA
  obtain rfl : args = #[] := args_eq e0
  refine (law_NewDesk _ (by first | rfl | (simp [cn, cn1, cn0]; done))).mono fun e W' ⟨v, he, hv, hb⟩ => ?_
  obtain rfl := cn_bool hv
  exact ⟨_, he, law_post laidOut (by kernel_rfl) (by kernel_rfl) Try.underlying4 rfl rfl hP hb⟩
set_option maxRecDepth 100000 in
theorem lifted (os : Os) (started : os.Started) (H : Type) (enc : TypeId × Value → H) :
    ReturnsInHanded {} Try.checked os 7 .any (Rows.fnExactNewDeskSpec.pre6 enc Try.prog Try.f7 Rows.fnExactNewDeskRow.domain false) (Rows.fnExactNewDeskSpec.post enc Try.prog Try.f7 false true false false) := by
  refine returnsInHanded_of_change (C := Try.checked) own started (by kernel_rfl) Try.func7
    (ChangeSpec.witness6 (enc := enc) (C := Try.checked) false ⟨#[], #[], []⟩ 8 (by kernel_rfl) (by kernel_rfl) (by kernel_rfl) (by kernel_rfl)) ?_
  intro W base args ds gs before hval hW _ _
  exact contract H enc W base args ds gs before hval hW
theorem proved : Rows.FnExactNewDeskSaid :=
  OpenClaim.holds_of_wide 7 Try.f7 rfl rfl rfl rfl rfl rfl rfl ⟨rfl, rfl, rfl, rfl, rfl⟩ rfl rfl rfl rfl rfl (by kernel_rfl) Try.func7 (by kernel_rfl)
    (of_decide_eq_true (by kernel_rfl)) (by unfold Func.isWrapper; first | (rw [if_pos (by decide +kernel)]; kernel_rfl) | (rw [if_neg (by decide +kernel)]; exact ⟨rfl, rfl⟩))
    (fun os started H enc _ => lifted os started H enc)
end SFnExactNewDesk
end Go.Proofs.Ytacjcomjnabmhaa
