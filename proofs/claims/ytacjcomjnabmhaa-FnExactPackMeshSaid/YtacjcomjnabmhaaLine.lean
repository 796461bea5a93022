/- Steps along a field: plain words. -/
import Derived.Test.YtacjcomjnabmhaaFlat
import Derived.Test.YtacjcomjnabmhaaExact
namespace Go.Proofs.Ytacjcomjnabmhaa
open Go.RowKit

theorem fin_of_rng {x : Nat} (h : rng Ieee.single x < Ieee.single.infRung) : fin x = true := by
  have key : fop .sub .f32 x x = Ieee.single.word false 0 := by
    obtain ⟨m, e, h1, h2⟩ := read_number Ieee.single h
    unfold fop floatBits Ieee.Format.sub
    simp only [show FloatKind.f32.format = Ieee.single from rfl, h1, Ieee.Datum.opposite, Ieee.Datum.sum, Option.map_some, Option.getD_some, signed_val, Int.min_self, Int.sub_self]
    show Ieee.single.nearest _ _ _ = _
    have e1 : ∀ (s : Bool) (u : Int), (if s = true then -u else u) + (if (!s) = true then -u else u) = 0 := by
      intro s u; cases s <;> simp <;> omega
    rw [e1]
    simp only [if_true, Int.natAbs_zero]
    have e2 : (sgn Ieee.single x && !sgn Ieee.single x) = false := by cases sgn Ieee.single x <;> rfl
    rw [e2]
    exact nearest_units Ieee.single false (a := 0) (b := e) (Nat.zero_le _) (by omega) (by simp [(units_zero Ieee.single).2 rfl])
  unfold fin
  rw [key]
  decide
theorem fin_mul {a k : Nat} (h : fin (fop .mul .f32 a k) = true) : fin a = true := by
  cases hn : fnan .f32 a
  · rcases Nat.lt_or_ge (rng Ieee.single a) Ieee.single.infRung with hl | hl
    · exact fin_of_rng hl
    · exfalso
      have hi : Ieee.single.read a = .infinity (sgn Ieee.single a) := read_inf .f32 (Nat.le_antisymm (rng_le hn) hl)
      revert h
      unfold fop floatBits Ieee.Format.mul
      simp only [show FloatKind.f32.format = Ieee.single from rfl, hi]
      generalize sgn Ieee.single a = s
      generalize Ieee.single.read k = d
      cases d with
      | nan => simp only [Ieee.Datum.product, Option.map_none, Option.getD_none]; decide
      | infinity t => simp only [Ieee.Datum.product, Option.map_some, Option.getD_some]; cases s <;> cases t <;> decide
      | number t n i =>
        simp only [Ieee.Datum.product]
        split
        · simp only [Option.map_none, Option.getD_none]; decide
        · simp only [Option.map_some, Option.getD_some]; cases s <;> cases t <;> decide
  · exfalso
    have h1 : fop .mul .f32 a k = qn .f32 := by simp [fop, floatBits_nan_left hn]
    rw [h1] at h
    revert h
    decide
theorem fin_scale {a : V3} {k : Nat} (h : fin3 (scale3 a k) = true) : fin3 a = true := by
  unfold fin3 scale3 at h
  simp only [Bool.and_eq_true] at h
  unfold fin3
  rw [fin_mul h.1.1, fin_mul h.1.2, fin_mul h.2]; rfl

def unit3 (v : V3) : V3 := scale3 v (fop .quo .f32 1065353216 (long3 v))
theorem unit_fin {v : V3} (h : fin3 (unit3 v) = true) : fin3 v = true := fin_scale h
def dirI (ws : List Wr) (p : V3) : V3 := unit3 (fieldI ws p)
def dirOk (ws : List Wr) (p : V3) : Bool := fin3 p && fin3 (dirI ws p)
def dirV (ws : List Wr) (p : V3) : V3 := if dirOk ws p then dirI ws p else z3
def midI (ws : List Wr) (p : V3) (st : Nat) : V3 := add3 p (scale3 (dirI ws p) (fop .mul .f32 1056964608 st))
def endI (ws : List Wr) (p : V3) (st : Nat) : V3 := add3 p (scale3 (dirI ws (midI ws p st)) st)
def stepOk (ws : List Wr) (p : V3) (st : Nat) : Bool := dirOk ws p && dirOk ws (midI ws p st) && fin3 (endI ws p st)
def stepV (ws : List Wr) (p : V3) (st : Nat) : V3 := if stepOk ws p st then endI ws p st else z3
section
variable {ws : List Wr} {p m : V3} {st : Nat}
theorem can_unit3 (v : V3) : Can3 (unit3 v) := can_scale3 _ _
theorem can_stepV : Can3 (stepV ws p st) := by unfold stepV; split; exact can_add3 _ _; exact can_z3
theorem dir_no (h : (fin3 p && fin3 (fieldI ws p)) = false) : Value.tuple #[vv z3, .bool false] = .tuple #[vv (dirV ws p), .bool (dirOk ws p)] := by
  have h1 : dirOk ws p = false := by
    unfold dirOk
    cases hp : fin3 p
    · rfl
    · rw [hp, Bool.true_and] at h
      cases hd : fin3 (dirI ws p)
      · rfl
      · rw [unit_fin hd] at h; cases h
  unfold dirV; rw [h1]; rfl
theorem dir_yes (h : (fin3 p && fin3 (fieldI ws p)) = true) : Value.tuple #[vv (ifV (unit3 (fieldI ws p))), .bool (fin3 (unit3 (fieldI ws p)))] = .tuple #[vv (dirV ws p), .bool (dirOk ws p)] := by
  rw [Bool.and_eq_true] at h
  have h1 : dirOk ws p = fin3 (unit3 (fieldI ws p)) := by unfold dirOk; rw [h.1, Bool.true_and]; rfl
  unfold dirV; rw [h1]; unfold ifV dirI; rfl
theorem step_no (h : stepOk ws p st = false) : Value.tuple #[vv z3, .bool false] = .tuple #[vv (stepV ws p st), .bool (stepOk ws p st)] := by unfold stepV; rw [h]; rfl
theorem step_i1 (h : dirOk ws p = false) : Value.tuple #[vv z3, .bool false] = .tuple #[vv (stepV ws p st), .bool (stepOk ws p st)] := step_no (by unfold stepOk; rw [h]; rfl)
theorem dirV_yes (h : dirOk ws p = true) : dirV ws p = dirI ws p := by unfold dirV; rw [h]; rfl
theorem mid_i (h : dirOk ws p = true) : add3 p (scale3 (dirV ws p) (fop .mul .f32 1056964608 st)) = midI ws p st := by rw [dirV_yes h]; rfl
theorem step_i2 (h : dirOk ws p = true) (h2 : dirOk ws (add3 p (scale3 (dirV ws p) (fop .mul .f32 1056964608 st))) = false) : Value.tuple #[vv z3, .bool false] = .tuple #[vv (stepV ws p st), .bool (stepOk ws p st)] := by
  rw [mid_i h] at h2
  exact step_no (by unfold stepOk; rw [h2, Bool.and_false]; rfl)
theorem step_yes (h : dirOk ws p = true) (h2 : dirOk ws (midI ws p st) = true) : Value.tuple #[vv (ifV (endI ws p st)), .bool (fin3 (endI ws p st))] = .tuple #[vv (stepV ws p st), .bool (stepOk ws p st)] := by
  have h1 : stepOk ws p st = fin3 (endI ws p st) := by unfold stepOk; rw [h, h2]; rfl
  unfold stepV; rw [h1]; unfold ifV; rfl
theorem step_i3 (h : dirOk ws p = true) (h2 : dirOk ws (add3 p (scale3 (dirV ws p) (fop .mul .f32 1056964608 st))) = true) :
    Value.tuple #[vv (ifV (add3 p (scale3 (dirV ws (add3 p (scale3 (dirV ws p) (fop .mul .f32 1056964608 st)))) st))), .bool (fin3 (add3 p (scale3 (dirV ws (add3 p (scale3 (dirV ws p) (fop .mul .f32 1056964608 st)))) st)))] = .tuple #[vv (stepV ws p st), .bool (stepOk ws p st)] := by
  rw [dirV_yes h2, mid_i h]
  rw [mid_i h] at h2
  exact step_yes h h2
theorem step_s1 (h : fin3 (unit3 (fieldI ws p)) = false) : Value.tuple #[vv z3, .bool false] = .tuple #[vv (stepV ws p st), .bool (stepOk ws p st)] := step_i1 (by unfold dirOk; rw [show dirI ws p = unit3 (fieldI ws p) from rfl, h, Bool.and_false])
theorem step_s2 (h : fin3 (add3 p (scale3 (unit3 (fieldI ws p)) (fop .mul .f32 1056964608 st))) = false) : Value.tuple #[vv z3, .bool false] = .tuple #[vv (stepV ws p st), .bool (stepOk ws p st)] := step_no (by
  unfold stepOk dirOk
  rw [show midI ws p st = add3 p (scale3 (unit3 (fieldI ws p)) (fop .mul .f32 1056964608 st)) from rfl, h]
  simp)
theorem step_s3 (h : fin3 (unit3 (fieldI ws (add3 p (scale3 (unit3 (fieldI ws p)) (fop .mul .f32 1056964608 st))))) = false) : Value.tuple #[vv z3, .bool false] = .tuple #[vv (stepV ws p st), .bool (stepOk ws p st)] := step_no (by
  have : dirOk ws (midI ws p st) = false := by
    unfold dirOk
    rw [show dirI ws (midI ws p st) = unit3 (fieldI ws (add3 p (scale3 (unit3 (fieldI ws p)) (fop .mul .f32 1056964608 st)))) from rfl, h, Bool.and_false]
  unfold stepOk
  rw [this, Bool.and_false]; rfl)
theorem step_s4 (h0 : fin3 p = true) (h : fin3 (unit3 (fieldI ws p)) = true) (h1 : fin3 (add3 p (scale3 (unit3 (fieldI ws p)) (fop .mul .f32 1056964608 st))) = true)
    (h2 : fin3 (unit3 (fieldI ws (add3 p (scale3 (unit3 (fieldI ws p)) (fop .mul .f32 1056964608 st))))) = true) :
    Value.tuple #[vv (ifV (add3 p (scale3 (unit3 (fieldI ws (add3 p (scale3 (unit3 (fieldI ws p)) (fop .mul .f32 1056964608 st))))) st))), .bool (fin3 (add3 p (scale3 (unit3 (fieldI ws (add3 p (scale3 (unit3 (fieldI ws p)) (fop .mul .f32 1056964608 st))))) st)))] = .tuple #[vv (stepV ws p st), .bool (stepOk ws p st)] :=
  step_yes (by unfold dirOk; rw [h0, show dirI ws p = unit3 (fieldI ws p) from rfl, h]; rfl) (by
    unfold dirOk
    rw [show midI ws p st = add3 p (scale3 (unit3 (fieldI ws p)) (fop .mul .f32 1056964608 st)) from rfl, h1]
    rw [show dirI ws (add3 p (scale3 (unit3 (fieldI ws p)) (fop .mul .f32 1056964608 st))) = unit3 (fieldI ws (add3 p (scale3 (unit3 (fieldI ws p)) (fop .mul .f32 1056964608 st)))) from rfl, h2]; rfl)
theorem step_fin (h : stepOk ws p st = true) : fin3 (stepV ws p st) = true := by
  unfold stepV; rw [h]
  unfold stepOk at h
  rw [Bool.and_eq_true] at h
  exact h.2
end

/-! ### the checked step -/
def slOk (ws : List Wr) (p : V3) (st : Nat) : Bool := wiresOk ws && fin3 p && fin st && stepOk ws p st
def slV (ws : List Wr) (p : V3) (st : Nat) : V3 := if slOk ws p st then stepV ws p st else z3
section
variable {ws : List Wr} {p m : V3} {st : Nat}
theorem can_slV : Can3 (slV ws p st) := by unfold slV; split; exact can_stepV; exact can_z3
theorem sl_no (h : slOk ws p st = false) : Value.tuple #[vv z3, .bool false] = .tuple #[vv (slV ws p st), .bool (slOk ws p st)] := by unfold slV; rw [h]; rfl
theorem sl_no1 (h : wiresOk ws = false) : Value.tuple #[vv z3, .bool false] = .tuple #[vv (slV ws p st), .bool (slOk ws p st)] := sl_no (by unfold slOk; rw [h]; rfl)
theorem sl_no2 (h : fin3 p = false) : Value.tuple #[vv z3, .bool false] = .tuple #[vv (slV ws p st), .bool (slOk ws p st)] := sl_no (by unfold slOk; rw [h, Bool.and_false]; rfl)
theorem sl_no3 (h : fin st = false) : Value.tuple #[vv z3, .bool false] = .tuple #[vv (slV ws p st), .bool (slOk ws p st)] := sl_no (by unfold slOk; rw [h, Bool.and_false]; rfl)
theorem sl_yes (h : wiresOk ws = true) (h2 : fin3 p = true) (h3 : fin st = true) : Value.tuple #[vv (stepV ws p st), .bool (stepOk ws p st)] = .tuple #[vv (slV ws p st), .bool (slOk ws p st)] := by
  have h1 : slOk ws p st = stepOk ws p st := by unfold slOk; rw [h, h2, h3]; rfl
  unfold slV; rw [h1]
  cases hs : stepOk ws p st
  · unfold stepV; rw [hs]; rfl
  · rfl
end
end Go.Proofs.Ytacjcomjnabmhaa
