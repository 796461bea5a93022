/- Proved here: laws.FnExactFillMesh returns true for every input, and each argument reads behind the call as it read before. Conditions: none beyond the row's own. -/
import Derived.Test.YtacjcomjnabmhaaRows
import Derived.Test.YtacjcomjnabmhaaOpenW
import Derived.Test.YtacjcomjnabmhaaOpen
import Derived.Test.YtacjcomjnabmhaaWFill
namespace Go.Proofs.Ytacjcomjnabmhaa
open Go.ChangeShapes Go.WideShapes Go.ChangeAt Go.RowKit
namespace SFnExactFillMesh
theorem args_eq {args : Array Value} {l : List Value} (h : args.toList = l) : args = l.toArray := by cases args; cases h; rfl
theorem own : ownKnob Try.prog.godebug = none := by kernel_rfl
theorem laidOut : laidOutB Try.prog = true := by kernel_rfl
theorem cells143 : Try.prog.cellsOf 143 = 3 := by kernel_rfl
theorem cells25 : Try.prog.cellsOf 25 = 1 := by kernel_rfl
theorem cells4 : Try.prog.cellsOf 4 = 1 := by kernel_rfl
theorem cells22 : Try.prog.cellsOf 22 = 1 := by kernel_rfl
theorem cells24 : Try.prog.cellsOf 24 = 3 := by kernel_rfl
set_option maxRecDepth 100000 in
theorem contract (H : Type) (enc : TypeId × Value → H) (W : World) (base : Nat) (args : Array Value) (ds gs : List (DataW H)) (before : List MemPlace)
    (hval : ∀ (j : Nat) t v, Try.f9.params[j]? = some t → args[j]? = some v → Value.okWide Try.prog W .any base t v)
    (hW : DataW.Whole enc Try.prog Try.f9.params.toList Rows.fnExactFillMeshSpec.vars false W args.toList ds gs before) :
    Calls Try.prog 9 args W fun e W' => ∃ v, e = .returned v ∧ Rows.fnExactFillMeshSpec.post enc Try.prog Try.f9 false true false false W args v W' := by
  have hW' := hW
  obtain ⟨p, q, hA, hV, rfl, hfz, hnd⟩ := hW
  obtain ⟨rfl, rfl⟩ := trodVars_none hV
  have hP := hW'
  rw [Try.params9] at hA hval
  obtain ⟨v0, vs0, d0, ds0, p0, q0, e0, rfl, rfl, g0, r0⟩ := trodAll_cons hA
  obtain ⟨v1, vs1, d1, ds1, p1, q1, e1, rfl, rfl, g1, r1⟩ := trodAll_cons r0
  obtain ⟨v2, vs2, d2, ds2, p2, q2, e2, rfl, rfl, g2, r2⟩ := trodAll_cons r1
  obtain ⟨v3, vs3, d3, ds3, p3, q3, e3, rfl, rfl, g3, r3⟩ := trodAll_cons r2
  obtain ⟨v4, vs4, d4, ds4, p4, q4, e4, rfl, rfl, g4, r4⟩ := trodAll_cons r3
  obtain ⟨v5, vs5, d5, ds5, p5, q5, e5, rfl, rfl, g5, r5⟩ := trodAll_cons r4
  obtain ⟨rfl, rfl, rfl⟩ := trodAll_nil r5
  subst e5
  subst e4
  subst e3
  subst e2
  subst e1
  obtain rfl : args = #[v0, v1, v2, v3, v4, v5] := args_eq e0
  obtain ⟨n0, hn0⟩ := g0
  obtain ⟨a0, l0, c0, rfl⟩ := okWide_slice Try.underlying67 (hval 0 67 _ rfl rfl)
  obtain ⟨ar0, f0, xs0, cr0, hc0, hA0, hR0, hX0, hm0, hr0⟩ := trod_wires Try.underlying67 Try.underlying143 cells143 rfl rfl rfl rfl rfl rfl Try.underlying25 Try.underlying4 Try.underlying22 cells25 cells4 cells22 Try.underlying24 cells24 rfl rfl rfl Try.underlying22 Try.underlying22 Try.underlying22 cells22 cells22 cells22 hn0
  simp only [Value.cells, List.cons.injEq, Value.slice.injEq, and_true] at hc0
  obtain ⟨rfl, rfl, rfl⟩ := hc0
  obtain ⟨n1, hn1⟩ := g1
  obtain ⟨s1, rfl, hz1⟩ := okWide_struct Try.underlying24 (hval 1 24 _ rfl rfl)
  obtain ⟨b1_0, b1_1, b1_2, hc1, l1_0, l1_1, l1_2⟩ := trod_vec Try.underlying24 cells24 rfl rfl rfl Try.underlying22 Try.underlying22 Try.underlying22 cells22 cells22 cells22 hn1
  obtain ⟨l1⟩ := s1
  replace hc1 : l1 = [.float .f32 b1_0, .float .f32 b1_1, .float .f32 b1_2] := hc1
  subst hc1
  obtain ⟨u2, rfl, _, _, wu2⟩ := open_float Try.underlying22 (hval 2 22 _ rfl rfl) g2
  obtain ⟨n3, rfl, _, _, wn3⟩ := open_int Try.underlying2 (hval 3 2 _ rfl rfl) g3
  obtain ⟨n4, rfl, _, _, wn4⟩ := open_int Try.underlying2 (hval 4 2 _ rfl rfl) g4
  obtain ⟨n5, rfl, _, _, wn5⟩ := open_int Try.underlying2 (hval 5 2 _ rfl rfl) g5
  refine (law_FillMesh (c := c0) (f1 := cb .f32 b1_0) (f2 := cb .f32 b1_1) (f3 := cb .f32 b1_2) (st := cb .f32 u2) (wi := n3) (hi := n4) (de := n5) hA0 hR0 hX0 hm0 hr0 ⟨can_cb .f32 l1_0, can_cb .f32 l1_1, can_cb .f32 l1_2⟩ (can_cb .f32 (wf_lt wu2)) _ (by first | rfl | (simp [cn, cn1, cn0, vv]; done))).mono fun e W' ⟨v, he, hv, hb⟩ => ?_
  obtain rfl := cn_bool hv
  exact ⟨_, he, law_post laidOut (by kernel_rfl) (by kernel_rfl) Try.underlying4 rfl rfl hP hb⟩
set_option maxRecDepth 100000 in
theorem lifted (os : Os) (started : os.Started) (H : Type) (enc : TypeId × Value → H) :
    ReturnsInHanded {} Try.checked os 9 .any (Rows.fnExactFillMeshSpec.pre6 enc Try.prog Try.f9 Rows.fnExactFillMeshRow.domain false) (Rows.fnExactFillMeshSpec.post enc Try.prog Try.f9 false true false false) := by
  refine returnsInHanded_of_change (C := Try.checked) own started (by kernel_rfl) Try.func9
    (ChangeSpec.witness6 (enc := enc) (C := Try.checked) false ⟨#[], #[.slice none 0 0, .agg #[.float .f32 0, .float .f32 0, .float .f32 0], .float .f32 0, .int .i64 0, .int .i64 0, .int .i64 0], []⟩ 8 (by kernel_rfl) (by kernel_rfl) (by kernel_rfl) (by kernel_rfl)) ?_
  intro W base args ds gs before hval hW _ _
  exact contract H enc W base args ds gs before hval hW
theorem proved : Rows.FnExactFillMeshSaid :=
  OpenClaim.holds_of_wide 9 Try.f9 rfl rfl rfl rfl rfl rfl rfl ⟨rfl, rfl, rfl, rfl, rfl⟩ rfl rfl rfl rfl rfl (by kernel_rfl) Try.func9 (by kernel_rfl)
    (of_decide_eq_true (by kernel_rfl)) (by unfold Func.isWrapper; first | (rw [if_pos (by decide +kernel)]; kernel_rfl) | (rw [if_neg (by decide +kernel)]; exact ⟨rfl, rfl⟩))
    (fun os started H enc _ => lifted os started H enc)
end SFnExactFillMesh
end Go.Proofs.Ytacjcomjnabmhaa
