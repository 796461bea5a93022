/- Proved here: laws.FnExactFieldAtDesk returns true for every input, and each argument reads behind the call as it read before. Conditions: none beyond the row's own. -/
import Derived.Test.YtacjcomjnabmhaaRows
import Derived.Test.YtacjcomjnabmhaaOpenW
import Derived.Test.YtacjcomjnabmhaaOpen
import Derived.Test.YtacjcomjnabmhaaWDeskF
namespace Go.Proofs.Ytacjcomjnabmhaa
open Go.ChangeShapes Go.WideShapes Go.ChangeAt Go.RowKit
namespace SFnExactFieldAtDesk
theorem args_eq {args : Array Value} {l : List Value} (h : args.toList = l) : args = l.toArray := by cases args; cases h; rfl
theorem own : ownKnob Try.prog.godebug = none := by kernel_rfl
theorem laidOut : laidOutB Try.prog = true := by kernel_rfl
theorem cells71 : Try.prog.cellsOf 71 = 5 := by kernel_rfl
theorem cells143 : Try.prog.cellsOf 143 = 3 := by kernel_rfl
theorem cells25 : Try.prog.cellsOf 25 = 1 := by kernel_rfl
theorem cells4 : Try.prog.cellsOf 4 = 1 := by kernel_rfl
theorem cells22 : Try.prog.cellsOf 22 = 1 := by kernel_rfl
theorem cells24 : Try.prog.cellsOf 24 = 3 := by kernel_rfl
theorem cells188 : Try.prog.cellsOf 188 = 4 := by kernel_rfl
set_option maxRecDepth 100000 in
theorem contract (H : Type) (enc : TypeId × Value → H) (W : World) (base : Nat) (args : Array Value) (ds gs : List (DataW H)) (before : List MemPlace)
    (hval : ∀ (j : Nat) t v, Try.f11.params[j]? = some t → args[j]? = some v → Value.okWide Try.prog W .any base t v)
    (hW : DataW.Whole enc Try.prog Try.f11.params.toList Rows.fnExactFieldAtDeskSpec.vars false W args.toList ds gs before) :
    Calls Try.prog 11 args W fun e W' => ∃ v, e = .returned v ∧ Rows.fnExactFieldAtDeskSpec.post enc Try.prog Try.f11 false true false false W args v W' := by
  have hW' := hW
  obtain ⟨p, q, hA, hV, rfl, hfz, hnd⟩ := hW
  obtain ⟨rfl, rfl⟩ := trodVars_none hV
  have hP := hW'
  rw [Try.params11] at hA hval
  obtain ⟨v0, vs0, d0, ds0, p0, q0, e0, rfl, rfl, g0, r0⟩ := trodAll_cons hA
  obtain ⟨v1, vs1, d1, ds1, p1, q1, e1, rfl, rfl, g1, r1⟩ := trodAll_cons r0
  obtain ⟨rfl, rfl, rfl⟩ := trodAll_nil r1
  subst e1
  obtain rfl : args = #[v0, v1] := args_eq e0
  obtain ⟨n0, hn0⟩ := g0
  obtain ⟨s0, rfl, hz0⟩ := okWide_struct Try.underlying71 (hval 0 71 _ rfl rfl)
  obtain ⟨_, hf0⟩ := trod_field Try.underlying71 hn0
  obtain ⟨l0⟩ := s0
  rw [cells71] at hz0
  replace hz0 : l0.length = 5 := hz0
  obtain ⟨z0_0, z0_1, z0_2, z0_3, z0_4, rfl⟩ : ∃ z0_0 z0_1 z0_2 z0_3 z0_4, l0 = [z0_0, z0_1, z0_2, z0_3, z0_4] := by
      match l0, hz0 with
      | [z0_0, z0_1, z0_2, z0_3, z0_4], _ => exact ⟨_, _, _, _, _, rfl⟩
  obtain ⟨y0_0, m0_0, hy0_0⟩ := hf0 0 _ rfl
  replace hy0_0 : DataW.trod enc Try.prog W 0 (fun _ => true) true m0_0 67 [z0_0] = some y0_0 := hy0_0
  obtain ⟨a0_0, f0_0, xs0_0, c0_0, hc0_0, hA0_0, hR0_0, hX0_0, hm0_0, hr0_0⟩ := trod_wires Try.underlying67 Try.underlying143 cells143 rfl rfl rfl rfl rfl rfl Try.underlying25 Try.underlying4 Try.underlying22 cells25 cells4 cells22 Try.underlying24 cells24 rfl rfl rfl Try.underlying22 Try.underlying22 Try.underlying22 cells22 cells22 cells22 hy0_0
  simp only [List.cons.injEq, and_true] at hc0_0
  subst hc0_0
  obtain ⟨y0_1, m0_1, hy0_1⟩ := hf0 1 _ rfl
  replace hy0_1 : DataW.trod enc Try.prog W 0 (fun _ => true) true m0_1 68 [z0_1] = some y0_1 := hy0_1
  obtain ⟨a0_1, xs0_1, c0_1, hc0_1, hA0_1, hX0_1, hm0_1⟩ := trod_poles Try.underlying68 Try.underlying188 cells188 rfl rfl rfl Try.underlying22 cells22 Try.underlying24 cells24 rfl rfl rfl Try.underlying22 Try.underlying22 Try.underlying22 cells22 cells22 cells22 hy0_1
  simp only [List.cons.injEq, and_true] at hc0_1
  subst hc0_1
  obtain ⟨y0_2, m0_2, hy0_2⟩ := hf0 2 _ rfl
  replace hy0_2 : DataW.trod enc Try.prog W 0 (fun _ => true) true m0_2 69 [z0_2, z0_3, z0_4] = some y0_2 := hy0_2
  obtain ⟨_, hf0_2⟩ := trod_field Try.underlying69 hy0_2
  obtain ⟨y0_2_0, m0_2_0, hy0_2_0⟩ := hf0_2 0 _ rfl
  replace hy0_2_0 : DataW.trod enc Try.prog W 0 (fun _ => true) true m0_2_0 29 [z0_2] = some y0_2_0 := hy0_2_0
  obtain ⟨a0_2_0, xs0_2_0, c0_2_0, hc0_2_0, hA0_2_0, hX0_2_0, hm0_2_0⟩ := trod_fls Try.underlying29 Try.underlying22 cells22 hy0_2_0
  simp only [List.cons.injEq, and_true] at hc0_2_0
  subst hc0_2_0
  obtain ⟨y0_2_1, m0_2_1, hy0_2_1⟩ := hf0_2 1 _ rfl
  replace hy0_2_1 : DataW.trod enc Try.prog W 0 (fun _ => true) true m0_2_1 29 [z0_3] = some y0_2_1 := hy0_2_1
  obtain ⟨a0_2_1, xs0_2_1, c0_2_1, hc0_2_1, hA0_2_1, hX0_2_1, hm0_2_1⟩ := trod_fls Try.underlying29 Try.underlying22 cells22 hy0_2_1
  simp only [List.cons.injEq, and_true] at hc0_2_1
  subst hc0_2_1
  obtain ⟨y0_2_2, m0_2_2, hy0_2_2⟩ := hf0_2 2 _ rfl
  replace hy0_2_2 : DataW.trod enc Try.prog W 0 (fun _ => true) true m0_2_2 29 [z0_4] = some y0_2_2 := hy0_2_2
  obtain ⟨a0_2_2, xs0_2_2, c0_2_2, hc0_2_2, hA0_2_2, hX0_2_2, hm0_2_2⟩ := trod_fls Try.underlying29 Try.underlying22 cells22 hy0_2_2
  simp only [List.cons.injEq, and_true] at hc0_2_2
  subst hc0_2_2
  obtain ⟨n1, hn1⟩ := g1
  obtain ⟨s1, rfl, hz1⟩ := okWide_struct Try.underlying24 (hval 1 24 _ rfl rfl)
  obtain ⟨b1_0, b1_1, b1_2, hc1, l1_0, l1_1, l1_2⟩ := trod_vec Try.underlying24 cells24 rfl rfl rfl Try.underlying22 Try.underlying22 Try.underlying22 cells22 cells22 cells22 hn1
  obtain ⟨l1⟩ := s1
  replace hc1 : l1 = [.float .f32 b1_0, .float .f32 b1_1, .float .f32 b1_2] := hc1
  subst hc1
  refine (law_FieldAtDesk (c := c0_0) (d := c0_1) (c1 := c0_2_0) (c2 := c0_2_1) (c3 := c0_2_2) (v1 := cb .f32 b1_0) (v2 := cb .f32 b1_1) (v3 := cb .f32 b1_2) hA0_0 hR0_0 hX0_0 hm0_0 hr0_0 hA0_1 hX0_1 hm0_1 hA0_2_0 hA0_2_1 hA0_2_2 hX0_2_0 hX0_2_1 hX0_2_2 hm0_2_0 hm0_2_1 hm0_2_2 _ (by first | rfl | (simp [cn, cn1, cn0, vv]; done))).mono fun e W' ⟨v, he, hv, hb⟩ => ?_
  obtain rfl := cn_bool hv
  exact ⟨_, he, law_post laidOut (by kernel_rfl) (by kernel_rfl) Try.underlying4 rfl rfl hP hb⟩
set_option maxRecDepth 100000 in
theorem lifted (os : Os) (started : os.Started) (H : Type) (enc : TypeId × Value → H) :
    ReturnsInHanded {} Try.checked os 11 .any (Rows.fnExactFieldAtDeskSpec.pre6 enc Try.prog Try.f11 Rows.fnExactFieldAtDeskRow.domain false) (Rows.fnExactFieldAtDeskSpec.post enc Try.prog Try.f11 false true false false) := by
  refine returnsInHanded_of_change (C := Try.checked) own started (by kernel_rfl) Try.func11
    (ChangeSpec.witness6 (enc := enc) (C := Try.checked) false ⟨#[], #[.agg #[.slice none 0 0, .slice none 0 0, .slice none 0 0, .slice none 0 0, .slice none 0 0], .agg #[.float .f32 0, .float .f32 0, .float .f32 0]], []⟩ 8 (by kernel_rfl) (by kernel_rfl) (by kernel_rfl) (by kernel_rfl)) ?_
  intro W base args ds gs before hval hW _ _
  exact contract H enc W base args ds gs before hval hW
theorem proved : Rows.FnExactFieldAtDeskSaid :=
  OpenClaim.holds_of_wide 11 Try.f11 rfl rfl rfl rfl rfl rfl rfl ⟨rfl, rfl, rfl, rfl, rfl⟩ rfl rfl rfl rfl rfl (by kernel_rfl) Try.func11 (by kernel_rfl)
    (of_decide_eq_true (by kernel_rfl)) (by unfold Func.isWrapper; first | (rw [if_pos (by decide +kernel)]; kernel_rfl) | (rw [if_neg (by decide +kernel)]; exact ⟨rfl, rfl⟩))
    (fun os started H enc _ => lifted os started H enc)
end SFnExactFieldAtDesk
end Go.Proofs.Ytacjcomjnabmhaa
