/- What is not finite stays so in a sum; the field at a place that is not finite. -/
import Derived.Test.YtacjcomjnabmhaaLine
namespace Go.Proofs.Ytacjcomjnabmhaa
open Go.RowKit

/-- what is no number, or too great, stays so in a sum -/
theorem fin_add {a b : Nat} (h : fin (fop .add .f32 a b) = true) : fin a = true ∧ fin b = true := by
  have one : ∀ x y : Nat, (∀ d e : Ieee.Datum, d = d → e = e → True) → fin (fop .add .f32 x y) = true → fnan .f32 x = false ∧ fnan .f32 y = false := by
    intro x y _ h
    constructor
    · cases hn : fnan .f32 x
      · rfl
      · have h1 : fop .add .f32 x y = qn .f32 := by simp [fop, floatBits_nan_left hn]
        rw [h1] at h; revert h; decide
    · cases hn : fnan .f32 y
      · rfl
      · have h1 : fop .add .f32 x y = qn .f32 := by simp [fop, floatBits_nan_right hn]
        rw [h1] at h; revert h; decide
  obtain ⟨ha, hb⟩ := one a b (fun _ _ _ _ => trivial) h
  have nb : (Ieee.single.read b).isNaN = false := read_num hb
  have na : (Ieee.single.read a).isNaN = false := read_num ha
  constructor
  · rcases Nat.lt_or_ge (rng Ieee.single a) Ieee.single.infRung with hl | hl
    · exact fin_of_rng hl
    · exfalso
      have hi : Ieee.single.read a = .infinity (sgn Ieee.single a) := read_inf .f32 (Nat.le_antisymm (rng_le ha) hl)
      revert h
      unfold fop floatBits Ieee.Format.add
      simp only [show FloatKind.f32.format = Ieee.single from rfl, hi]
      generalize sgn Ieee.single a = s
      generalize hd : Ieee.single.read b = d
      rw [hd] at nb
      cases d with
      | nan => cases nb
      | infinity t =>
        simp only [Ieee.Datum.sum]
        split
        · simp only [Option.map_some, Option.getD_some]; cases s <;> decide
        · simp only [Option.map_none, Option.getD_none]; decide
      | number t n i => simp only [Ieee.Datum.sum, Option.map_some, Option.getD_some]; cases s <;> decide
  · rcases Nat.lt_or_ge (rng Ieee.single b) Ieee.single.infRung with hl | hl
    · exact fin_of_rng hl
    · exfalso
      have hi : Ieee.single.read b = .infinity (sgn Ieee.single b) := read_inf .f32 (Nat.le_antisymm (rng_le hb) hl)
      revert h
      unfold fop floatBits Ieee.Format.add
      simp only [show FloatKind.f32.format = Ieee.single from rfl, hi]
      generalize sgn Ieee.single b = s
      generalize hd : Ieee.single.read a = d
      rw [hd] at na
      cases d with
      | nan => cases na
      | infinity t =>
        simp only [Ieee.Datum.sum]
        split
        · simp only [Option.map_some, Option.getD_some]; cases t <;> decide
        · simp only [Option.map_none, Option.getD_none]; decide
      | number t n i => simp only [Ieee.Datum.sum, Option.map_some, Option.getD_some]; cases s <;> decide
theorem fin_sub_self {x : Nat} (h : fin (fop .sub .f32 x x) = true) : fin x = true := by
  cases hn : fnan .f32 x
  · rcases Nat.lt_or_ge (rng Ieee.single x) Ieee.single.infRung with hl | hl
    · exact fin_of_rng hl
    · exfalso
      have hi : Ieee.single.read x = .infinity (sgn Ieee.single x) := read_inf .f32 (Nat.le_antisymm (rng_le hn) hl)
      revert h
      unfold fop floatBits Ieee.Format.sub
      simp only [show FloatKind.f32.format = Ieee.single from rfl, hi]
      generalize sgn Ieee.single x = s
      cases s <;> decide
  · exfalso
    have h1 : fop .sub .f32 x x = qn .f32 := by simp [fop, floatBits_nan_left hn]
    rw [h1] at h; revert h; decide
theorem fin3_add {a b : V3} (h : fin3 (add3 a b) = true) : fin3 a = true := by
  unfold fin3 add3 at h
  simp only [Bool.and_eq_true] at h
  unfold fin3
  rw [(fin_add h.1.1).1, (fin_add h.1.2).1, (fin_add h.2).1]; rfl
theorem fin3_sumA {ws : List Wr} {p s0 : V3} : ∀ k, fin3 (sumA ws p s0 k) = true → fin3 s0 = true
  | 0, h => h
  | k + 1, h => fin3_sumA k (fin3_add h)
theorem fin3_sub_self {p : V3} (h : fin3 (sub3 p p) = true) : fin3 p = true := by
  unfold fin3 sub3 at h
  simp only [Bool.and_eq_true] at h
  unfold fin3
  rw [fin_sub_self h.1.1, fin_sub_self h.1.2, fin_sub_self h.2]; rfl
theorem fieldS_no {ws : List Wr} {p : V3} (h : fin3 p = false) : fin3 (fieldS ws p) = false := by
  cases h2 : fin3 (fieldS ws p)
  · rfl
  · unfold fieldS at h2
    rw [h] at h2
    have := fin3_sub_self (fin3_sumA _ h2)
    rw [h] at this; cases this
theorem fieldS_ok (ws : List Wr) (p : V3) : fin3 (fieldS ws p) = (fin3 p && fin3 (fieldI ws p)) := by
  cases h : fin3 p
  · rw [fieldS_no h]; rfl
  · rw [fieldS_fin h]; rfl

end Go.Proofs.Ytacjcomjnabmhaa
