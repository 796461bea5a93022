/- Proved here: laws.FnExactRoundMesh returns true for every input, and each argument reads behind the call as it read before. Conditions: none beyond the row's own. -/
import Derived.Test.YtnommdpgmoljcaaRows
import Derived.Test.YtnommdpgmoljcaaKFnExactRoundMesh6
namespace Go.Proofs.Ytnommdpgmoljcaa
open Go.ChangeShapes Go.WideShapes Go.ChangeAt Go.RowKit
namespace SFnExactRoundMesh
theorem args_eq {args : Array Value} {l : List Value} (h : args.toList = l) : args = l.toArray := by cases args; cases h; rfl
theorem own : ownKnob Try.prog.godebug = none := by kernel_rfl
theorem laidOut : laidOutB Try.prog = true := by kernel_rfl
theorem cells45 : Try.prog.cellsOf 45 = 8 := by kernel_rfl
theorem cells25 : Try.prog.cellsOf 25 = 3 := by kernel_rfl
theorem cells23 : Try.prog.cellsOf 23 = 1 := by kernel_rfl
set_option maxRecDepth 100000 in
theorem contract (H : Type) (enc : TypeId × Value → H) (W : World) (base : Nat) (args : Array Value) (ds gs : List (DataW H)) (before : List MemPlace)
    (hval : ∀ (j : Nat) t v, Try.f5.params[j]? = some t → args[j]? = some v → Value.okWide Try.prog W .any base t v)
    (hW : DataW.Whole enc Try.prog Try.f5.params.toList Rows.fnExactRoundMeshSpec.vars false W args.toList ds gs before) :
    Calls Try.prog 5 args W fun e W' => ∃ v, e = .returned v ∧ Rows.fnExactRoundMeshSpec.post enc Try.prog Try.f5 false true false false W args v W' := by
  have hW' := hW
  obtain ⟨p, q, hA, hV, rfl, hfz, hnd⟩ := hW
  obtain ⟨rfl, rfl⟩ := trodVars_none hV
  have hP := hW'
  rw [Try.params5] at hA hval
  obtain ⟨v0, vs0, d0, ds0, p0, q0, e0, rfl, rfl, g0, r0⟩ := trodAll_cons hA
  obtain ⟨rfl, rfl, rfl⟩ := trodAll_nil r0
  obtain rfl : args = #[v0] := args_eq e0
  obtain ⟨n0, hn0⟩ := g0
  obtain ⟨s0, rfl, hz0⟩ := okWide_struct Try.underlying45 (hval 0 45 _ rfl rfl)
  obtain ⟨_, hf0⟩ := trod_field Try.underlying45 hn0
  obtain ⟨l0⟩ := s0
  rw [cells45] at hz0
  replace hz0 : l0.length = 8 := hz0
  obtain ⟨z0_0, z0_1, z0_2, z0_3, z0_4, z0_5, z0_6, z0_7, rfl⟩ : ∃ z0_0 z0_1 z0_2 z0_3 z0_4 z0_5 z0_6 z0_7, l0 = [z0_0, z0_1, z0_2, z0_3, z0_4, z0_5, z0_6, z0_7] := by
      match l0, hz0 with
      | [z0_0, z0_1, z0_2, z0_3, z0_4, z0_5, z0_6, z0_7], _ => exact ⟨_, _, _, _, _, _, _, _, rfl⟩
  obtain ⟨y0_0, m0_0, hy0_0⟩ := hf0 0 _ rfl
  replace hy0_0 : DataW.trod enc Try.prog W 0 (fun _ => true) true m0_0 25 [z0_0, z0_1, z0_2] = some y0_0 := hy0_0
  obtain ⟨b0_0_0, b0_0_1, b0_0_2, hc0_0, l0_0_0, l0_0_1, l0_0_2⟩ := trod_vec Try.underlying25 cells25 rfl rfl rfl Try.underlying23 Try.underlying23 Try.underlying23 cells23 cells23 cells23 hy0_0
  simp only [List.cons.injEq, and_true] at hc0_0
  obtain ⟨rfl, rfl, rfl⟩ := hc0_0
  obtain ⟨y0_1, m0_1, hy0_1⟩ := hf0 1 _ rfl
  replace hy0_1 : DataW.trod enc Try.prog W 0 (fun _ => true) true m0_1 23 [z0_3] = some y0_1 := hy0_1
  obtain ⟨b0_1, hc0_1, l0_1⟩ := trod_flt Try.underlying23 hy0_1
  simp only [List.cons.injEq, and_true] at hc0_1
  subst hc0_1
  obtain ⟨y0_2, m0_2, hy0_2⟩ := hf0 2 _ rfl
  replace hy0_2 : DataW.trod enc Try.prog W 0 (fun _ => true) true m0_2 2 [z0_4] = some y0_2 := hy0_2
  obtain ⟨k0_2, hc0_2, _, _⟩ := DataW.trod_int Try.underlying2 hy0_2
  simp only [List.cons.injEq, and_true] at hc0_2
  subst hc0_2
  obtain ⟨y0_3, m0_3, hy0_3⟩ := hf0 3 _ rfl
  replace hy0_3 : DataW.trod enc Try.prog W 0 (fun _ => true) true m0_3 2 [z0_5] = some y0_3 := hy0_3
  obtain ⟨k0_3, hc0_3, _, _⟩ := DataW.trod_int Try.underlying2 hy0_3
  simp only [List.cons.injEq, and_true] at hc0_3
  subst hc0_3
  obtain ⟨y0_4, m0_4, hy0_4⟩ := hf0 4 _ rfl
  replace hy0_4 : DataW.trod enc Try.prog W 0 (fun _ => true) true m0_4 2 [z0_6] = some y0_4 := hy0_4
  obtain ⟨k0_4, hc0_4, _, _⟩ := DataW.trod_int Try.underlying2 hy0_4
  simp only [List.cons.injEq, and_true] at hc0_4
  subst hc0_4
  obtain ⟨y0_5, m0_5, hy0_5⟩ := hf0 5 _ rfl
  replace hy0_5 : DataW.trod enc Try.prog W 0 (fun _ => true) true m0_5 43 [z0_7] = some y0_5 := hy0_5
  obtain ⟨a0_5, xs0_5, c0_5, hc0_5, hA0_5, hX0_5, hm0_5⟩ := trod_vecs Try.underlying43 Try.underlying25 cells25 rfl rfl rfl Try.underlying23 Try.underlying23 Try.underlying23 cells23 cells23 cells23 hy0_5
  simp only [List.cons.injEq, and_true] at hc0_5
  subst hc0_5
  refine (law_RoundMesh (f1 := cb .f32 b0_0_0) (f2 := cb .f32 b0_0_1) (f3 := cb .f32 b0_0_2) (st := cb .f32 b0_1) (wi := k0_2) (hi := k0_3) (de := k0_4) (c := c0_5) hA0_5 hX0_5 hm0_5 ⟨can_cb .f32 l0_0_0, can_cb .f32 l0_0_1, can_cb .f32 l0_0_2⟩ (can_cb .f32 l0_1) _ (by first | rfl | (simp [cn, cn1, cn0]; done))).mono fun e W' ⟨v, he, hv, hb⟩ => ?_
  obtain rfl := cn_bool hv
  exact ⟨_, he, law_post laidOut (by kernel_rfl) (by kernel_rfl) Try.underlying4 rfl rfl hP hb⟩
set_option maxRecDepth 100000 in
theorem lifted (os : Os) (started : os.Started) (H : Type) (enc : TypeId × Value → H) :
    ReturnsInHanded {} Try.checked os 5 .any (Rows.fnExactRoundMeshSpec.pre6 enc Try.prog Try.f5 Rows.fnExactRoundMeshRow.domain false) (Rows.fnExactRoundMeshSpec.post enc Try.prog Try.f5 false true false false) := by
  refine returnsInHanded_of_change (C := Try.checked) own started (by kernel_rfl) Try.func5
    (ChangeSpec.witness6 (enc := enc) (C := Try.checked) false ⟨#[], #[.agg #[.float .f32 0, .float .f32 0, .float .f32 0, .float .f32 0, .int .i64 0, .int .i64 0, .int .i64 0, .slice none 0 0]], []⟩ 8 (by kernel_rfl) (by kernel_rfl) (by kernel_rfl) (by kernel_rfl)) ?_
  intro W base args ds gs before hval hW _ _
  exact contract H enc W base args ds gs before hval hW
theorem proved : Rows.FnExactRoundMeshSaid :=
  OpenClaim.holds_of_wide 5 Try.f5 rfl rfl rfl rfl rfl rfl rfl ⟨rfl, rfl, rfl, rfl, rfl⟩ rfl rfl rfl rfl rfl (by kernel_rfl) Try.func5 (by kernel_rfl)
    (of_decide_eq_true (by kernel_rfl)) (by unfold Func.isWrapper; first | (rw [if_pos (by decide +kernel)]; kernel_rfl) | (rw [if_neg (by decide +kernel)]; exact ⟨rfl, rfl⟩))
    (fun os started H enc _ => lifted os started H enc)
end SFnExactRoundMesh
end Go.Proofs.Ytnommdpgmoljcaa

