/- Proved here: laws.FnExactDesignOf returns true for every input, and each argument reads behind the call as it read before. Conditions: none beyond the row's own. -/
import Derived.Test.YtppfkajfekafaaaRows
import Derived.Test.YtppfkajfekafaaaOpenW
import Derived.Test.YtppfkajfekafaaaOpen
import Derived.Test.YtppfkajfekafaaaWLDsn
namespace Go.Proofs.Ytppfkajfekafaaa
open Go.ChangeShapes Go.WideShapes Go.ChangeAt Go.RowKit
namespace SFnExactDesignOf
theorem args_eq {args : Array Value} {l : List Value} (h : args.toList = l) : args = l.toArray := by cases args; cases h; rfl
theorem own : ownKnob Try.prog.godebug = none := by kernel_rfl
theorem laidOut : laidOutB Try.prog = true := by kernel_rfl
theorem cells116 : Try.prog.cellsOf 116 = 3 := by kernel_rfl
theorem cells42 : Try.prog.cellsOf 42 = 1 := by kernel_rfl
theorem cells4 : Try.prog.cellsOf 4 = 1 := by kernel_rfl
theorem cells43 : Try.prog.cellsOf 43 = 1 := by kernel_rfl
theorem cells45 : Try.prog.cellsOf 45 = 3 := by kernel_rfl
set_option maxRecDepth 100000 in
theorem contract (H : Type) (enc : TypeId × Value → H) (W : World) (base : Nat) (args : Array Value) (ds gs : List (DataW H)) (before : List MemPlace)
    (hval : ∀ (j : Nat) t v, Try.f10.params[j]? = some t → args[j]? = some v → Value.okWide Try.prog W .any base t v)
    (hW : DataW.Whole enc Try.prog Try.f10.params.toList Rows.fnExactDesignOfSpec.vars false W args.toList ds gs before) :
    Calls Try.prog 10 args W fun e W' => ∃ v, e = .returned v ∧ Rows.fnExactDesignOfSpec.post enc Try.prog Try.f10 false true false false W args v W' := by
  have hW' := hW
  obtain ⟨p, q, hA, hV, rfl, hfz, hnd⟩ := hW
  obtain ⟨rfl, rfl⟩ := trodVars_none hV
  have hP := hW'
  rw [Try.params10] at hA hval
  obtain ⟨v0, vs0, d0, ds0, p0, q0, e0, rfl, rfl, g0, r0⟩ := trodAll_cons hA
  obtain ⟨v1, vs1, d1, ds1, p1, q1, e1, rfl, rfl, g1, r1⟩ := trodAll_cons r0
  obtain ⟨v2, vs2, d2, ds2, p2, q2, e2, rfl, rfl, g2, r2⟩ := trodAll_cons r1
  obtain ⟨v3, vs3, d3, ds3, p3, q3, e3, rfl, rfl, g3, r3⟩ := trodAll_cons r2
  obtain ⟨rfl, rfl, rfl⟩ := trodAll_nil r3
  subst e3
  subst e2
  subst e1
  obtain rfl : args = #[v0, v1, v2, v3] := args_eq e0
  obtain ⟨n0, hn0⟩ := g0
  obtain ⟨a0, l0, c0, rfl⟩ := okWide_slice Try.underlying33 (hval 0 33 _ rfl rfl)
  obtain ⟨ar0, f0, xs0, cr0, hc0, hA0, hR0, hX0, hm0, hr0⟩ := trod_wires Try.underlying33 Try.underlying116 cells116 rfl rfl rfl rfl rfl rfl Try.underlying42 Try.underlying4 Try.underlying43 cells42 cells4 cells43 Try.underlying45 cells45 rfl rfl rfl Try.underlying43 Try.underlying43 Try.underlying43 cells43 cells43 cells43 hn0
  simp only [Value.cells, List.cons.injEq, Value.slice.injEq, and_true] at hc0
  obtain ⟨rfl, rfl, rfl⟩ := hc0
  obtain ⟨n1, hn1⟩ := g1
  obtain ⟨a1, l1, c1, rfl⟩ := okWide_slice Try.underlying42 (hval 1 42 _ rfl rfl)
  obtain ⟨ar1, xs1, cr1, hc1, hA1, hX1, hm1⟩ := trod_vecs Try.underlying42 Try.underlying45 cells45 rfl rfl rfl Try.underlying43 Try.underlying43 Try.underlying43 cells43 cells43 cells43 hn1
  simp only [Value.cells, List.cons.injEq, Value.slice.injEq, and_true] at hc1
  obtain ⟨rfl, rfl, rfl⟩ := hc1
  obtain ⟨n2, hn2⟩ := g2
  obtain ⟨s2, rfl, hz2⟩ := okWide_struct Try.underlying45 (hval 2 45 _ rfl rfl)
  obtain ⟨b2_0, b2_1, b2_2, hc2, l2_0, l2_1, l2_2⟩ := trod_vec Try.underlying45 cells45 rfl rfl rfl Try.underlying43 Try.underlying43 Try.underlying43 cells43 cells43 cells43 hn2
  obtain ⟨l2⟩ := s2
  replace hc2 : l2 = [.float .f32 b2_0, .float .f32 b2_1, .float .f32 b2_2] := hc2
  subst hc2
  obtain ⟨a3, xs3, c3, rfl, hA3, hX3⟩ := open_fls Try.underlying24 Try.underlying43 cells43 (hval 3 24 _ rfl rfl) g3
  refine (law_DesignOf (c := c0) (c' := c1) (d := c3) (y1 := cb .f32 b2_0) (y2 := cb .f32 b2_1) (y3 := cb .f32 b2_2) hA0 hR0 hX0 hm0 hr0 hA1 hX1 hm1 hA3 hX3 _ (by first | rfl | (simp [cn, cn1, cn0, vv]; done))).mono fun e W' ⟨v, he, hv, hb⟩ => ?_
  obtain rfl := cn_bool hv
  exact ⟨_, he, law_post laidOut (by kernel_rfl) (by kernel_rfl) Try.underlying4 rfl rfl hP hb⟩
set_option maxRecDepth 100000 in
theorem lifted (os : Os) (started : os.Started) (H : Type) (enc : TypeId × Value → H) :
    ReturnsInHanded {} Try.checked os 10 .any (Rows.fnExactDesignOfSpec.pre6 enc Try.prog Try.f10 Rows.fnExactDesignOfRow.domain false) (Rows.fnExactDesignOfSpec.post enc Try.prog Try.f10 false true false false) := by
  refine returnsInHanded_of_change (C := Try.checked) own started (by kernel_rfl) Try.func10
    (ChangeSpec.witness6 (enc := enc) (C := Try.checked) false ⟨#[], #[.slice none 0 0, .slice none 0 0, .agg #[.float .f32 0, .float .f32 0, .float .f32 0], .slice none 0 0], []⟩ 8 (by kernel_rfl) (by kernel_rfl) (by kernel_rfl) (by kernel_rfl)) ?_
  intro W base args ds gs before hval hW _ _
  exact contract H enc W base args ds gs before hval hW
theorem proved : Rows.FnExactDesignOfSaid :=
  OpenClaim.holds_of_wide 10 Try.f10 rfl rfl rfl rfl rfl rfl rfl ⟨rfl, rfl, rfl, rfl, rfl⟩ rfl rfl rfl rfl rfl (by kernel_rfl) Try.func10 (by kernel_rfl)
    (of_decide_eq_true (by kernel_rfl)) (by unfold Func.isWrapper; first | (rw [if_pos (by decide +kernel)]; kernel_rfl) | (rw [if_neg (by decide +kernel)]; exact ⟨rfl, rfl⟩))
    (fun os started H enc _ => lifted os started H enc)
end SFnExactDesignOf
end Go.Proofs.Ytppfkajfekafaaa
