/- Proved here: laws.FnExactWorstBetween returns true for every input, and each argument reads behind the call as it read before. Conditions: none beyond the row's own. -/
import Derived.Test.YtacjcomjnabmhaaRows
import Derived.Test.YtacjcomjnabmhaaOpenW
import Derived.Test.YtacjcomjnabmhaaOpen
import Derived.Test.YtacjcomjnabmhaaWWbM
namespace Go.Proofs.Ytacjcomjnabmhaa
open Go.ChangeShapes Go.WideShapes Go.ChangeAt Go.RowKit
namespace SFnExactWorstBetween
theorem args_eq {args : Array Value} {l : List Value} (h : args.toList = l) : args = l.toArray := by cases args; cases h; rfl
theorem own : ownKnob Try.prog.godebug = none := by kernel_rfl
theorem laidOut : laidOutB Try.prog = true := by kernel_rfl
theorem cells143 : Try.prog.cellsOf 143 = 3 := by kernel_rfl
theorem cells25 : Try.prog.cellsOf 25 = 1 := by kernel_rfl
theorem cells4 : Try.prog.cellsOf 4 = 1 := by kernel_rfl
theorem cells22 : Try.prog.cellsOf 22 = 1 := by kernel_rfl
theorem cells24 : Try.prog.cellsOf 24 = 3 := by kernel_rfl
theorem cells27 : Try.prog.cellsOf 27 = 8 := by kernel_rfl
set_option maxRecDepth 100000 in
theorem contract (H : Type) (enc : TypeId × Value → H) (W : World) (base : Nat) (args : Array Value) (ds gs : List (DataW H)) (before : List MemPlace)
    (hval : ∀ (j : Nat) t v, Try.f10.params[j]? = some t → args[j]? = some v → Value.okWide Try.prog W .any base t v)
    (hW : DataW.Whole enc Try.prog Try.f10.params.toList Rows.fnExactWorstBetweenSpec.vars false W args.toList ds gs before) :
    Calls Try.prog 10 args W fun e W' => ∃ v, e = .returned v ∧ Rows.fnExactWorstBetweenSpec.post enc Try.prog Try.f10 false true false false W args v W' := by
  have hW' := hW
  obtain ⟨p, q, hA, hV, rfl, hfz, hnd⟩ := hW
  obtain ⟨rfl, rfl⟩ := trodVars_none hV
  have hP := hW'
  rw [Try.params10] at hA hval
  obtain ⟨v0, vs0, d0, ds0, p0, q0, e0, rfl, rfl, g0, r0⟩ := trodAll_cons hA
  obtain ⟨v1, vs1, d1, ds1, p1, q1, e1, rfl, rfl, g1, r1⟩ := trodAll_cons r0
  obtain ⟨rfl, rfl, rfl⟩ := trodAll_nil r1
  subst e1
  obtain rfl : args = #[v0, v1] := args_eq e0
  obtain ⟨n0, hn0⟩ := g0
  obtain ⟨a0, l0, c0, rfl⟩ := okWide_slice Try.underlying67 (hval 0 67 _ rfl rfl)
  obtain ⟨ar0, f0, xs0, cr0, hc0, hA0, hR0, hX0, hm0, hr0⟩ := trod_wires Try.underlying67 Try.underlying143 cells143 rfl rfl rfl rfl rfl rfl Try.underlying25 Try.underlying4 Try.underlying22 cells25 cells4 cells22 Try.underlying24 cells24 rfl rfl rfl Try.underlying22 Try.underlying22 Try.underlying22 cells22 cells22 cells22 hn0
  simp only [Value.cells, List.cons.injEq, Value.slice.injEq, and_true] at hc0
  obtain ⟨rfl, rfl, rfl⟩ := hc0
  obtain ⟨n1, hn1⟩ := g1
  obtain ⟨s1, rfl, hz1⟩ := okWide_struct Try.underlying27 (hval 1 27 _ rfl rfl)
  obtain ⟨_, hf1⟩ := trod_field Try.underlying27 hn1
  obtain ⟨l1⟩ := s1
  rw [cells27] at hz1
  replace hz1 : l1.length = 8 := hz1
  obtain ⟨z1_0, z1_1, z1_2, z1_3, z1_4, z1_5, z1_6, z1_7, rfl⟩ : ∃ z1_0 z1_1 z1_2 z1_3 z1_4 z1_5 z1_6 z1_7, l1 = [z1_0, z1_1, z1_2, z1_3, z1_4, z1_5, z1_6, z1_7] := by
      match l1, hz1 with
      | [z1_0, z1_1, z1_2, z1_3, z1_4, z1_5, z1_6, z1_7], _ => exact ⟨_, _, _, _, _, _, _, _, rfl⟩
  obtain ⟨y1_0, m1_0, hy1_0⟩ := hf1 0 _ rfl
  replace hy1_0 : DataW.trod enc Try.prog W 0 (fun _ => true) true m1_0 24 [z1_0, z1_1, z1_2] = some y1_0 := hy1_0
  obtain ⟨b1_0_0, b1_0_1, b1_0_2, hc1_0, l1_0_0, l1_0_1, l1_0_2⟩ := trod_vec Try.underlying24 cells24 rfl rfl rfl Try.underlying22 Try.underlying22 Try.underlying22 cells22 cells22 cells22 hy1_0
  simp only [List.cons.injEq, and_true] at hc1_0
  obtain ⟨rfl, rfl, rfl⟩ := hc1_0
  obtain ⟨y1_1, m1_1, hy1_1⟩ := hf1 1 _ rfl
  replace hy1_1 : DataW.trod enc Try.prog W 0 (fun _ => true) true m1_1 22 [z1_3] = some y1_1 := hy1_1
  obtain ⟨b1_1, hc1_1, l1_1⟩ := trod_flt Try.underlying22 hy1_1
  simp only [List.cons.injEq, and_true] at hc1_1
  subst hc1_1
  obtain ⟨y1_2, m1_2, hy1_2⟩ := hf1 2 _ rfl
  replace hy1_2 : DataW.trod enc Try.prog W 0 (fun _ => true) true m1_2 2 [z1_4] = some y1_2 := hy1_2
  obtain ⟨k1_2, hc1_2, _, _⟩ := DataW.trod_int Try.underlying2 hy1_2
  simp only [List.cons.injEq, and_true] at hc1_2
  subst hc1_2
  obtain ⟨y1_3, m1_3, hy1_3⟩ := hf1 3 _ rfl
  replace hy1_3 : DataW.trod enc Try.prog W 0 (fun _ => true) true m1_3 2 [z1_5] = some y1_3 := hy1_3
  obtain ⟨k1_3, hc1_3, _, _⟩ := DataW.trod_int Try.underlying2 hy1_3
  simp only [List.cons.injEq, and_true] at hc1_3
  subst hc1_3
  obtain ⟨y1_4, m1_4, hy1_4⟩ := hf1 4 _ rfl
  replace hy1_4 : DataW.trod enc Try.prog W 0 (fun _ => true) true m1_4 2 [z1_6] = some y1_4 := hy1_4
  obtain ⟨k1_4, hc1_4, _, _⟩ := DataW.trod_int Try.underlying2 hy1_4
  simp only [List.cons.injEq, and_true] at hc1_4
  subst hc1_4
  obtain ⟨y1_5, m1_5, hy1_5⟩ := hf1 5 _ rfl
  replace hy1_5 : DataW.trod enc Try.prog W 0 (fun _ => true) true m1_5 25 [z1_7] = some y1_5 := hy1_5
  obtain ⟨a1_5, xs1_5, c1_5, hc1_5, hA1_5, hX1_5, hm1_5⟩ := trod_vecs Try.underlying25 Try.underlying24 cells24 rfl rfl rfl Try.underlying22 Try.underlying22 Try.underlying22 cells22 cells22 cells22 hy1_5
  simp only [List.cons.injEq, and_true] at hc1_5
  subst hc1_5
  refine (law_WorstBetween (c := c0) (f1 := cb .f32 b1_0_0) (f2 := cb .f32 b1_0_1) (f3 := cb .f32 b1_0_2) (st := cb .f32 b1_1) (wi := k1_2) (hi := k1_3) (de := k1_4) (e := c1_5) hA0 hR0 hX0 hm0 hr0 hA1_5 hX1_5 hm1_5 ⟨can_cb .f32 l1_0_0, can_cb .f32 l1_0_1, can_cb .f32 l1_0_2⟩ (can_cb .f32 l1_1) _ (by first | rfl | (simp [cn, cn1, cn0]; done))).mono fun e W' ⟨v, he, hv, hb⟩ => ?_
  obtain rfl := cn_bool hv
  exact ⟨_, he, law_post laidOut (by kernel_rfl) (by kernel_rfl) Try.underlying4 rfl rfl hP hb⟩
set_option maxRecDepth 100000 in
theorem lifted (os : Os) (started : os.Started) (H : Type) (enc : TypeId × Value → H) :
    ReturnsInHanded {} Try.checked os 10 .any (Rows.fnExactWorstBetweenSpec.pre6 enc Try.prog Try.f10 Rows.fnExactWorstBetweenRow.domain false) (Rows.fnExactWorstBetweenSpec.post enc Try.prog Try.f10 false true false false) := by
  refine returnsInHanded_of_change (C := Try.checked) own started (by kernel_rfl) Try.func10
    (ChangeSpec.witness6 (enc := enc) (C := Try.checked) false ⟨#[], #[.slice none 0 0, .agg #[.float .f32 0, .float .f32 0, .float .f32 0, .float .f32 0, .int .i64 0, .int .i64 0, .int .i64 0, .slice none 0 0]], []⟩ 8 (by kernel_rfl) (by kernel_rfl) (by kernel_rfl) (by kernel_rfl)) ?_
  intro W base args ds gs before hval hW _ _
  exact contract H enc W base args ds gs before hval hW
theorem proved : Rows.FnExactWorstBetweenSaid :=
  OpenClaim.holds_of_wide 10 Try.f10 rfl rfl rfl rfl rfl rfl rfl ⟨rfl, rfl, rfl, rfl, rfl⟩ rfl rfl rfl rfl rfl (by kernel_rfl) Try.func10 (by kernel_rfl)
    (of_decide_eq_true (by kernel_rfl)) (by unfold Func.isWrapper; first | (rw [if_pos (by decide +kernel)]; kernel_rfl) | (rw [if_neg (by decide +kernel)]; exact ⟨rfl, rfl⟩))
    (fun os started H enc _ => lifted os started H enc)
end SFnExactWorstBetween
end Go.Proofs.Ytacjcomjnabmhaa
