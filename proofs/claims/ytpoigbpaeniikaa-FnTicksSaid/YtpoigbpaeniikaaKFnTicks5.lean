/- Own texts of this claim, merged: Qv, Qw, Qx, Sv, Sw, Sx, Tc, Te, Tf, WTi. -/
import Derived.KernelRfl
import Derived.Test.YtpoigbpaeniikaaKFnTicks4
namespace Go.Proofs.Ytpoigbpaeniikaa
open Go.RowKit

def WW : Rat := ((16777216 * UU : Int) : Rat)
theorem WW_is : WW = 16777216 * ((UU : Int) : Rat) := by unfold WW; rw [Rat.intCast_mul]; rfl
theorem WW_pos : 0 < WW := by
  unfold WW
  have := UU_pos
  have h : (0 : Int) < 16777216 * UU := by omega
  have h2 := (Rat.intCast_lt_intCast (a := 0) (b := 16777216 * UU)).2 h
  exact h2
def qv (x : Nat) (q : Rat) : Prop := ∃ X : Int, apx x X ∧ (X : Rat) = q * WW
theorem i_of_q {A B : Int} {a b : Rat} (hA : (A : Rat) = a * WW) (hB : (B : Rat) = b * WW) (h : a ≤ b) : A ≤ B := by
  rw [← Rat.intCast_le_intCast, hA, hB]
  exact Rat.mul_le_mul_of_nonneg_right h (Rat.le_of_lt WW_pos)
theorem q_of_i {A B : Int} {a b : Rat} (hA : (A : Rat) = a * WW) (hB : (B : Rat) = b * WW) (h : A ≤ B) : a ≤ b := by
  rw [← Rat.intCast_le_intCast, hA, hB] at h
  exact Rat.le_of_mul_le_mul_right h WW_pos
theorem WW2_pos : 0 < WW * WW := Rat.mul_pos WW_pos WW_pos
theorem i_of_q2 {A B : Int} {a b : Rat} (hA : (A : Rat) = a * (WW * WW)) (hB : (B : Rat) = b * (WW * WW)) (h : a ≤ b) : A ≤ B := by
  rw [← Rat.intCast_le_intCast, hA, hB]
  exact Rat.mul_le_mul_of_nonneg_right h (Rat.le_of_lt WW2_pos)
theorem q_of_i2 {A B : Int} {a b : Rat} (hA : (A : Rat) = a * (WW * WW)) (hB : (B : Rat) = b * (WW * WW)) (h : A ≤ B) : a ≤ b := by
  rw [← Rat.intCast_le_intCast, hA, hB] at h
  exact Rat.le_of_mul_le_mul_right h WW2_pos
/-- K is a power of two, not too great. -/
def pw2 (k : Nat) (K : Rat) : Prop := K = ((2 ^ k : Nat) : Rat)
theorem pw2_int {k : Nat} {K : Rat} (h : pw2 k K) : ∃ J : Int, ((2 ^ k : Nat) : Int) = J ∧ (J : Rat) = K := ⟨_, rfl, by rw [h]; rfl⟩
section
variable {x y : Nat} {p q K : Rat} {k : Nat}
theorem qv_add (hK : pw2 k K) (hk : k ≤ 70) (hx : qv x p) (hy : qv y q) (h1 : -K ≤ p + q) (h2 : p + q ≤ K) : ∃ z, qv (fop .add .f32 x y) z ∧ p + q - K / 16777216 ≤ z ∧ z ≤ p + q + K / 16777216 := by
  obtain ⟨X, hX, eX⟩ := hx
  obtain ⟨Y, hY, eY⟩ := hy
  obtain ⟨J, hJ, rfl⟩ := pw2_int hK
  have hw := WW_is
  have hp := WW_pos
  obtain ⟨Z, z1, z2, z3⟩ := er_add k hJ hk hX hY
    (i_of_q (a := -(J : Rat)) (b := p + q) (by push_cast; grind) (by push_cast; grind) h1) (i_of_q (a := p + q) (b := (J : Rat)) (by push_cast; grind) (by push_cast; grind) h2)
  refine ⟨(Z : Rat) / WW, ⟨Z, z1, by grind⟩, q_of_i (B := Z) ?_ (by grind) z2, q_of_i (A := Z) (by grind) ?_ z3⟩
  · push_cast; grind
  · push_cast; grind
theorem qv_sub (hK : pw2 k K) (hk : k ≤ 70) (hx : qv x p) (hy : qv y q) (h1 : -K ≤ p - q) (h2 : p - q ≤ K) : ∃ z, qv (fop .sub .f32 x y) z ∧ p - q - K / 16777216 ≤ z ∧ z ≤ p - q + K / 16777216 := by
  obtain ⟨X, hX, eX⟩ := hx
  obtain ⟨Y, hY, eY⟩ := hy
  obtain ⟨J, hJ, rfl⟩ := pw2_int hK
  have hw := WW_is
  have hp := WW_pos
  obtain ⟨Z, z1, z2, z3⟩ := er_sub k hJ hk hX hY
    (i_of_q (a := -(J : Rat)) (b := p - q) (by push_cast; grind) (by push_cast; grind) h1) (i_of_q (a := p - q) (b := (J : Rat)) (by push_cast; grind) (by push_cast; grind) h2)
  refine ⟨(Z : Rat) / WW, ⟨Z, z1, by grind⟩, q_of_i (B := Z) ?_ (by grind) z2, q_of_i (A := Z) (by grind) ?_ z3⟩
  · push_cast; grind
  · push_cast; grind
theorem qv_mul (hK : pw2 k K) (hk : k ≤ 70) (hx : qv x p) (hy : qv y q) (h1 : -K ≤ p * q) (h2 : p * q ≤ K) : ∃ z, qv (fop .mul .f32 x y) z ∧ p * q - K / 16777216 ≤ z ∧ z ≤ p * q + K / 16777216 := by
  obtain ⟨X, hX, eX⟩ := hx
  obtain ⟨Y, hY, eY⟩ := hy
  obtain ⟨J, hJ, rfl⟩ := pw2_int hK
  have hw := WW_is
  have hp := WW_pos
  obtain ⟨Z, z1, z2, z3⟩ := er_mul k hJ hk hX hY
    (i_of_q2 (a := -(J : Rat)) (b := p * q) (by push_cast; grind) (by push_cast; grind) h1) (i_of_q2 (a := p * q) (b := (J : Rat)) (by push_cast; grind) (by push_cast; grind) h2)
  refine ⟨(Z : Rat) / WW, ⟨Z, z1, by grind⟩, q_of_i2 ?_ ?_ z2, q_of_i2 ?_ ?_ z3⟩
  · push_cast; grind
  · push_cast; grind
  · push_cast; grind
  · push_cast; grind
end
end Go.Proofs.Ytpoigbpaeniikaa


namespace Go.Proofs.Ytpoigbpaeniikaa
open Go.RowKit

def W9 : Rat := WW * ((D9 : Nat) : Rat)
theorem D9_pos : 0 < D9 := by rw [← D9_is]; exact pow_pos' 925
attribute [local irreducible] D9 D7 UU
theorem D9r_pos : (0 : Rat) < ((D9 : Nat) : Rat) := by
  have := (Rat.intCast_lt_intCast (a := 0) (b := ((D9 : Nat) : Int))).2 (by have := D9_pos; omega)
  exact this
theorem W9_pos : 0 < W9 := Rat.mul_pos WW_pos D9r_pos
theorem WW_149 : WW = ((2 ^ 149 : Nat) : Rat) := by
  unfold WW
  rw [BB_is]; rfl
theorem W9_pow {P : Nat} (hP : P = 1074) : W9 = ((2 ^ P : Nat) : Rat) := by
  have h := pow_split (p := P) (q := 149) (r := 925) (by omega)
  rw [D9_is] at h
  unfold W9
  rw [WW_149, ← Rat.natCast_mul, h]
theorem W9_D7 : W9 = WW * WW * ((D7 : Nat) : Rat) := by
  unfold W9
  rw [D9_D7, Rat.natCast_mul, ← WW_149]
  grind
def dv (x : Nat) (q : Rat) : Prop := ∃ V : Int, apd x V ∧ (V : Rat) = q * W9
section
variable {x y : Nat} {p q K : Rat} {k : Nat}
theorem dv_mul (hx : qv x p) (hy : qv y q) : dv (fop .mul .f64 (up x) (up y)) (p * q) := by
  obtain ⟨X, hX, eX⟩ := hx
  obtain ⟨Y, hY, eY⟩ := hy
  refine ⟨_, apd_mulD hX hY, ?_⟩
  rw [W9_D7]
  push_cast
  rw [eX, eY]
  generalize (D7 : Rat) = d
  grind
theorem dv_add0 (hx : dv x p) (hy : apd y 0) : dv (fop .add .f64 x y) p := by
  obtain ⟨X, hX, eX⟩ := hx
  exact ⟨X, apd_add0 hX hy, eX⟩
theorem dv_sub0 (hx : dv x p) (hy : apd y 0) : dv (fop .sub .f64 x y) p := by
  obtain ⟨X, hX, eX⟩ := hx
  exact ⟨X, apd_sub0 hX hy, eX⟩
theorem abs_int {X : Int} {m c : Rat} (h1 : -c ≤ (X : Rat)) (h2 : (X : Rat) ≤ c) (hm : c = m) : ((X.natAbs : Nat) : Rat) ≤ m := by
  subst hm
  rcases Int.natAbs_eq X with h | h
  · have : ((X.natAbs : Nat) : Rat) = ((X : Int) : Rat) := by
      have := congrArg (fun z : Int => (z : Rat)) h
      exact this.symm
    rw [this]; exact h2
  · have : ((X.natAbs : Nat) : Rat) = -((X : Int) : Rat) := by
      have h3 : ((X.natAbs : Nat) : Int) = -X := by omega
      have := congrArg (fun z : Int => (z : Rat)) h3
      simp only [Rat.intCast_neg] at this
      exact this
    rw [this]; grind
theorem nat_of_q {a b : Nat} (h : (a : Rat) ≤ (b : Rat)) : a ≤ b := by
  have := (Rat.intCast_le_intCast (a := (a : Int)) (b := (b : Int))).1 h
  omega
theorem dv_narrow (hK : pw2 k K) (hk : k ≤ 70) (hx : dv x p) (h1 : -K ≤ p) (h2 : p ≤ K) : fover .f64 .f32 x = false ∧ ∃ z, qv (fconv .f64 .f32 x) z ∧ p - K / 16777216 ≤ z ∧ z ≤ p + K / 16777216 := by
  obtain ⟨X, hX, eX⟩ := hx
  have hp := W9_pos
  have hq := D9r_pos
  have e24 : ((2 ^ 24 * 2 ^ (125 + k) : Nat) : Rat) = K * WW := by
    rw [hK, WW_149, ← Rat.natCast_mul, ← Nat.pow_add, ← Nat.pow_add]
    congr 2; omega
  have e25 : ((2 ^ (125 + k) : Nat) : Rat) = K * WW / 16777216 := by
    rw [← e24, Rat.natCast_mul]
    have : ((2 ^ 24 : Nat) : Rat) = 16777216 := by rfl
    rw [this]; grind
  obtain ⟨a1, Z, a2, a3, a4⟩ := er_narrowD (c := 125 + k) (by omega) hX (nat_of_q (by
    rw [Rat.natCast_mul, e24]
    refine abs_int (c := K * W9) ?_ ?_ (by unfold W9; grind)
    · rw [eX]
      have := Rat.mul_le_mul_of_nonneg_right h1 (Rat.le_of_lt hp)
      grind
    · rw [eX]
      exact Rat.mul_le_mul_of_nonneg_right h2 (Rat.le_of_lt hp)))
  obtain ⟨z, hz⟩ : ∃ z : Rat, (Z : Rat) = z * WW := ⟨(Z : Rat) / WW, by have := WW_pos; grind⟩
  refine ⟨a1, z, ⟨Z, a2, hz⟩, ?_, ?_⟩
  · have := (Rat.intCast_le_intCast).2 a3
    simp only [Rat.intCast_sub, Rat.intCast_mul, Rat.intCast_natCast] at this
    rw [e25, eX, hz] at this
    unfold W9 at this hp
    have hw := WW_pos
    refine Rat.le_of_mul_le_mul_right (c := WW * ((D9 : Nat) : Rat)) ?_ hp
    generalize ((D9 : Nat) : Rat) = d at *
    grind
  · have := (Rat.intCast_le_intCast).2 a4
    simp only [Rat.intCast_add, Rat.intCast_mul, Rat.intCast_natCast] at this
    rw [e25, eX, hz] at this
    unfold W9 at this hp
    have hw := WW_pos
    refine Rat.le_of_mul_le_mul_right (c := WW * ((D9 : Nat) : Rat)) ?_ hp
    generalize ((D9 : Nat) : Rat) = d at *
    grind
theorem dv_quo (hK : pw2 k K) (hk : k ≤ 70) (hx : dv x p) (hy : dv y q) (hq : 0 < q) (h1 : -(K * q) ≤ p) (h2 : p ≤ K * q) : ∃ z, dv (fop .quo .f64 x y) z ∧ p - K / 2251799813685248 * q ≤ z * q ∧ z * q ≤ p + K / 2251799813685248 * q := by
  obtain ⟨X, hX, eX⟩ := hx
  obtain ⟨Y, hY, eY⟩ := hy
  obtain ⟨P, hP⟩ : ∃ P : Nat, P = 1074 := ⟨_, rfl⟩
  have hp := W9_pos
  have e1 := W9_pow hP
  have hY0 : 0 < Y := by
    have := Rat.mul_pos hq hp
    rw [← eY] at this
    exact (Rat.intCast_lt_intCast (a := 0)).1 this
  obtain ⟨c, hc⟩ : ∃ c : Nat, c + 52 = P + k := ⟨P + k - 52, by omega⟩
  have e2 : ((2 ^ c : Nat) : Rat) = K * W9 / 4503599627370496 := by
    have h3 : ((2 ^ c * 2 ^ 52 : Nat) : Rat) = K * W9 := by
      rw [hK, e1, ← Rat.natCast_mul, ← Nat.pow_add, ← Nat.pow_add]
      congr 2; omega
    rw [Rat.natCast_mul] at h3
    have : ((2 ^ 52 : Nat) : Rat) = 4503599627370496 := by rfl
    rw [this] at h3
    grind
  have hYn : ((Y.natAbs : Nat) : Rat) = q * W9 := by
    rw [← eY]
    have h3 : ((Y.natAbs : Nat) : Int) = Y := by omega
    exact congrArg (fun z : Int => (z : Rat)) h3
  obtain ⟨Z, z1, z2, z3⟩ := er_quo64 hP (c := c) (by omega) hX hY hY0 (nat_of_q (by
    rw [Rat.natCast_mul, Rat.natCast_mul, Rat.natCast_mul, hYn, e2, ← e1]
    have h3 : ((X.natAbs : Nat) : Rat) ≤ K * q * W9 := by
      refine abs_int (c := K * q * W9) ?_ ?_ rfl
      · rw [eX]
        have := Rat.mul_le_mul_of_nonneg_right h1 (Rat.le_of_lt hp)
        grind
      · rw [eX]
        exact Rat.mul_le_mul_of_nonneg_right h2 (Rat.le_of_lt hp)
    have h4 := Rat.mul_le_mul_of_nonneg_right h3 (Rat.le_of_lt hp)
    have : ((2 ^ 52 : Nat) : Rat) = 4503599627370496 := by rfl
    rw [this]
    grind))
  have hpp := Rat.mul_pos hp hp
  obtain ⟨z, hz⟩ : ∃ z : Rat, (Z : Rat) = z * W9 := ⟨(Z : Rat) / W9, by grind⟩
  refine ⟨z, ⟨Z, z1, hz⟩, ?_, ?_⟩
  · have := (Rat.intCast_le_intCast).2 z2
    simp only [Rat.intCast_sub, Rat.intCast_mul, Rat.intCast_natCast, Rat.intCast_ofNat] at this
    rw [e2, ← e1, eX, eY, hz] at this
    refine Rat.le_of_mul_le_mul_right (c := W9 * W9) ?_ hpp
    grind
  · have := (Rat.intCast_le_intCast).2 z3
    simp only [Rat.intCast_add, Rat.intCast_mul, Rat.intCast_natCast, Rat.intCast_ofNat] at this
    rw [e2, ← e1, eX, eY, hz] at this
    refine Rat.le_of_mul_le_mul_right (c := W9 * W9) ?_ hpp
    grind
end
end Go.Proofs.Ytpoigbpaeniikaa


namespace Go.Proofs.Ytpoigbpaeniikaa
open Go.RowKit

attribute [local irreducible] D9 D7 UU WW W9
theorem apd_neg {x : Nat} {X : Int} (hw : x < 2 ^ 64) (h : apd x X) : apd (fneg .f64 x) (-X) := by
  have hsw : FloatKind.f64.format.signWeight = 9223372036854775808 := by decide
  have key : Op.negFloat .f64 x < 2 ^ 64 ∧ rng FloatKind.f64.format (Op.negFloat .f64 x) = rng FloatKind.f64.format x ∧ sgn FloatKind.f64.format (Op.negFloat .f64 x) = !sgn FloatKind.f64.format x := by
    have e0 : Op.negFloat .f64 x = x ^^^ 2 ^ 63 := rfl
    rw [e0]
    by_cases hlt : x < 9223372036854775808
    · have e : x ^^^ 2 ^ 63 = x + 9223372036854775808 := by
        have h2 := xor_top (n := 63) (r := x) (by omega)
        rw [show (2 : Nat) ^ 63 = 9223372036854775808 from rfl] at h2 ⊢
        have h3 : (9223372036854775808 + x) ^^^ 9223372036854775808 ^^^ 9223372036854775808 = x ^^^ 9223372036854775808 := by rw [h2]
        rw [Nat.xor_assoc, Nat.xor_self, Nat.xor_zero] at h3
        omega
      rw [e]
      unfold rng sgn
      rw [hsw]
      refine ⟨by omega, by omega, ?_⟩
      rw [show (x + 9223372036854775808) / 9223372036854775808 % 2 = 1 by omega, show x / 9223372036854775808 % 2 = 0 by omega]; rfl
    · have e : x ^^^ 2 ^ 63 = x - 9223372036854775808 := by
        have h2 := xor_top (n := 63) (r := x - 9223372036854775808) (by omega)
        rw [show (2 : Nat) ^ 63 = 9223372036854775808 from rfl] at h2 ⊢
        rw [show 9223372036854775808 + (x - 9223372036854775808) = x by omega] at h2
        exact h2
      rw [e]
      unfold rng sgn
      rw [hsw]
      refine ⟨by omega, by omega, ?_⟩
      rw [show (x - 9223372036854775808) / 9223372036854775808 % 2 = 0 by omega, show x / 9223372036854775808 % 2 = 1 by omega]; rfl
  have hf : fneg .f64 x = Op.negFloat .f64 x := by
    unfold fneg
    refine cb_num ?_
    rw [fnan_rng, key.2.1]
    exact decide_eq_false (by have := h.1; omega)
  rw [hf]
  refine ⟨by rw [key.2.1]; exact h.1, ?_⟩
  rw [← h.2]
  unfold sval
  rw [key.2.1, key.2.2]
  cases sgn FloatKind.f64.format x <;> simp
/-- A zero divided. -/
theorem apd_quo0 {x y : Nat} {Y : Int} (hx : apd x 0) (hy : apd y Y) (hY : 0 < Y) : apd (fop .quo .f64 x y) 0 := by
  obtain ⟨m, e, a1, a2⟩ := read_number FloatKind.f64.format hx.1
  obtain ⟨n, d, b1, b2⟩ := read_number FloatKind.f64.format hy.1
  rw [hx.units, Int.natAbs_zero] at a2
  have hm : m = 0 := by
    rcases Nat.eq_zero_or_pos m with h | h
    · exact h
    · have := Nat.mul_pos h (pow_pos' e); omega
  subst hm
  have hn : n ≠ 0 := by
    rintro rfl
    rw [hy.units, Nat.zero_mul] at b2
    omega
  have hw : fop .quo .f64 x y = FloatKind.f64.format.word (sgn FloatKind.f64.format x ^^ sgn FloatKind.f64.format y) 0 := by
    have e0 : fop .quo .f64 x y = ((((FloatKind.f64.format.read x).quotient 54 (FloatKind.f64.format.read y)).map FloatKind.f64.format.write).getD (qn .f64)) := rfl
    rw [e0, a1, b1]
    simp only [Ieee.Datum.quotient, if_neg hn, Option.map_some, Option.getD_some]
    show FloatKind.f64.format.nearest _ _ _ = _
    unfold Ieee.Format.nearest
    rw [if_pos]
    rw [shl_eq, Nat.zero_mul, Nat.zero_div, Nat.zero_mod]; rfl
  rw [hw]
  have := apd_word (sgn FloatKind.f64.format x ^^ sgn FloatKind.f64.format y) (r := 0) (by decide)
  rw [(units_zero FloatKind.f64.format).2 rfl] at this
  simpa using this
theorem apd_mulz {x y : Nat} {Y : Int} (hx : apd x 0) (hy : apd y Y) : apd (fop .mul .f64 x y) 0 := by
  obtain ⟨m, e, a1, a2⟩ := read_number FloatKind.f64.format hx.1
  obtain ⟨n, d, b1, b2⟩ := read_number FloatKind.f64.format hy.1
  rw [hx.units, Int.natAbs_zero] at a2
  have hm : m = 0 := by
    rcases Nat.eq_zero_or_pos m with h | h
    · exact h
    · have := Nat.mul_pos h (pow_pos' e); omega
  subst hm
  have hw : fop .mul .f64 x y = FloatKind.f64.format.word (sgn FloatKind.f64.format x ^^ sgn FloatKind.f64.format y) 0 := by
    unfold fop floatBits Ieee.Format.mul
    simp only [a1, b1, Ieee.Datum.product, Option.map_some, Option.getD_some]
    show FloatKind.f64.format.nearest _ _ _ = _
    unfold Ieee.Format.nearest
    rw [if_pos (Nat.zero_mul _)]
  rw [hw]
  have := apd_word (sgn FloatKind.f64.format x ^^ sgn FloatKind.f64.format y) (r := 0) (by decide)
  rw [(units_zero FloatKind.f64.format).2 rfl] at this
  simpa using this
theorem apd_mulz' {x y : Nat} {Y : Int} (hx : apd x Y) (hy : apd y 0) : apd (fop .mul .f64 x y) 0 := by
  obtain ⟨m, e, a1, a2⟩ := read_number FloatKind.f64.format hx.1
  obtain ⟨n, d, b1, b2⟩ := read_number FloatKind.f64.format hy.1
  rw [hy.units, Int.natAbs_zero] at b2
  have hm : n = 0 := by
    rcases Nat.eq_zero_or_pos n with h | h
    · exact h
    · have := Nat.mul_pos h (pow_pos' d); omega
  subst hm
  have hw : fop .mul .f64 x y = FloatKind.f64.format.word (sgn FloatKind.f64.format x ^^ sgn FloatKind.f64.format y) 0 := by
    unfold fop floatBits Ieee.Format.mul
    simp only [a1, b1, Ieee.Datum.product, Option.map_some, Option.getD_some]
    show FloatKind.f64.format.nearest _ _ _ = _
    unfold Ieee.Format.nearest
    rw [if_pos (Nat.mul_zero _)]
  rw [hw]
  have := apd_word (sgn FloatKind.f64.format x ^^ sgn FloatKind.f64.format y) (r := 0) (by decide)
  rw [(units_zero FloatKind.f64.format).2 rfl] at this
  simpa using this
theorem apd_up0 {x : Nat} (h : apx x 0) : apd (up x) 0 := by
  have := apd_up h
  rw [Int.zero_mul] at this
  exact this
theorem apd_neg0 {x : Nat} (h : apx x 0) : apd (fneg .f64 (up x)) 0 := by
  have := apd_neg (x := up x) (Nat.lt_of_lt_of_le (can_up x).lt (by decide)) (apd_up0 h)
  rw [Int.neg_zero] at this
  exact this
/-- A complex number without an imaginary part, with a value. -/
def cq (p : CP) (a : Rat) : Prop := qv p.1 a ∧ apx p.2 0
section
variable {p q : CP} {a b K : Rat} {k : Nat}
theorem cq_t (hK : pw2 k K) (hk : k ≤ 70) (hp : cq p a) (hq : cq q b) (h1 : -K ≤ a * b) (h2 : a * b ≤ K) : tOk p q ∧ ∃ z, cq (cT p q) z ∧ a * b - K / 16777216 ≤ z ∧ z ≤ a * b + K / 16777216 := by
  have p1 : dv (tc1 p.1 p.2 q.1 q.2) (a * b) := dv_sub0 (dv_mul hp.1 hq.1) (apd_mul0 hp.2 hq.2)
  obtain ⟨A, hA, _⟩ := hp.1
  obtain ⟨B, hB, _⟩ := hq.1
  have p2 : apd (tc2 p.1 p.2 q.1 q.2) 0 := apd_add0 (apd_mul0 hA hq.2) (apd_mul0' hp.2 hB)
  obtain ⟨e1, z, e2, e3⟩ := dv_narrow hK hk p1 h1 h2
  obtain ⟨z1, z2⟩ := er_zero p2
  exact ⟨⟨e1, z1⟩, z, ⟨e2, z2⟩, e3⟩
theorem apx_sub0 {x y : Nat} (hx : apx x 0) (hy : apx y 0) : apx (fop .sub .f32 x y) 0 := by
  have d1 : dy .f32 x 0 := ⟨hx.1, hx.2.1, by rw [hx.2.2, Int.zero_mul]⟩
  have d2 : dy .f32 y 0 := ⟨hy.1, hy.2.1, by rw [hy.2.2, Int.zero_mul]⟩
  have := apx_dy (dy_sub d1 d2 (by decide))
  rw [Int.sub_self, Int.zero_mul] at this
  exact this
theorem cq_m (hK : pw2 k K) (hk : k ≤ 70) (hp : cq p a) (hq : cq q b) (h1 : -K ≤ a - b) (h2 : a - b ≤ K) : ∃ z, cq (cM p q) z ∧ a - b - K / 16777216 ≤ z ∧ z ≤ a - b + K / 16777216 := by
  obtain ⟨z, e1, e2⟩ := qv_sub hK hk hp.1 hq.1 h1 h2
  exact ⟨z, ⟨e1, apx_sub0 hp.2 hq.2⟩, e2⟩
theorem dv_pw (hp : cq p a) : dv (pw64 p.1 p.2) (a * a) := dv_add0 (dv_mul hp.1 hp.1) (apd_mulz (apd_up0 hp.2) (apd_up0 hp.2))
theorem cq_p (hK : pw2 k K) (hk : k ≤ 70) (hp : cq p a) (h2 : a * a ≤ K) : fover .f64 .f32 (pw64 p.1 p.2) = false ∧ ∃ z, qv (pwr p.1 p.2) z ∧ a * a - K / 16777216 ≤ z ∧ z ≤ a * a + K / 16777216 := by
  have h0 : 0 ≤ a * a := by
    rcases (Rat.le_total : (0 : Rat) ≤ a ∨ a ≤ 0) with h | h
    · exact Rat.mul_nonneg h h
    · have := Rat.mul_nonneg (show 0 ≤ -a by grind) (show 0 ≤ -a by grind)
      grind
  exact dv_narrow hK hk (dv_pw hp) (by grind) h2
theorem cq_o (hK : pw2 k K) (hk : k ≤ 70) (hp : cq p a) (hq : cq q b) (hb : 0 < b) (h1 : -(K * 1023 / 1024 * b) ≤ a) (h2 : a ≤ K * 1023 / 1024 * b) : oOk p q ∧ ∃ z, cq (cO p q) z ∧ a - K / 16000000 * b ≤ z * b ∧ z * b ≤ a + K / 16000000 * b := by
  obtain ⟨A, hA, _⟩ := hp.1
  obtain ⟨B, hB, _⟩ := hq.1
  have hbb := Rat.mul_pos hb hb
  have hK0 : 0 ≤ K := by rw [hK]; exact Rat.natCast_nonneg
  have n1 : dv (fop .sub .f64 (fop .mul .f64 (up p.1) (up q.1)) (fop .mul .f64 (up p.2) (fneg .f64 (up q.2)))) (a * b) := dv_sub0 (dv_mul hp.1 hq.1) (apd_mulz (apd_up0 hp.2) (apd_neg0 hq.2))
  have n2 : apd (fop .add .f64 (fop .mul .f64 (up p.1) (fneg .f64 (up q.2))) (fop .mul .f64 (up p.2) (up q.1))) 0 := apd_add0 (apd_mulz' (apd_up hA) (apd_neg0 hq.2)) (apd_mulz (apd_up0 hp.2) (apd_up hB))
  have dn := dv_pw hq
  obtain ⟨S, s1, s2⟩ := id dn
  have hS : 0 < S := by
    have := Rat.mul_pos hbb W9_pos
    rw [← s2] at this
    exact (Rat.intCast_lt_intCast (a := 0)).1 this
  have g1 := Rat.mul_le_mul_of_nonneg_right h1 (Rat.le_of_lt hb)
  have g2 := Rat.mul_le_mul_of_nonneg_right h2 (Rat.le_of_lt hb)
  have g3 := Rat.mul_nonneg hK0 (Rat.le_of_lt hbb)
  obtain ⟨z, z1, z2, z3⟩ := dv_quo hK hk n1 dn hbb (by grind) (by grind)
  have z4 : a - K / 2251799813685248 * b ≤ z * b := Rat.le_of_mul_le_mul_right (c := b) (by grind) hb
  have z5 : z * b ≤ a + K / 2251799813685248 * b := Rat.le_of_mul_le_mul_right (c := b) (by grind) hb
  have g4 := Rat.mul_nonneg hK0 (Rat.le_of_lt hb)
  obtain ⟨e1, y, e2, e3, e4⟩ := dv_narrow hK hk z1 (Rat.le_of_mul_le_mul_right (c := b) (by grind) hb) (Rat.le_of_mul_le_mul_right (c := b) (by grind) hb)
  obtain ⟨i1, i2⟩ := er_zero (apd_quo0 n2 s1 hS)
  have g5 := Rat.mul_le_mul_of_nonneg_right e3 (Rat.le_of_lt hb)
  have g6 := Rat.mul_le_mul_of_nonneg_right e4 (Rat.le_of_lt hb)
  exact ⟨⟨e1, i1⟩, y, ⟨e2, i2⟩, by grind, by grind⟩
end
/-! ### comparisons -/
section
variable {x y : Nat} {p q : Rat}
theorem qv_cmp {X Y : Int} (hx : apx x X) (hy : apx y Y) : FloatKind.f32.format.order x y = some (compare X Y) := by
  rw [order_number hx.2.1 hy.2.1, hx.2.2, hy.2.2]
theorem qv_self (hx : qv x p) : fcmp .eql .f32 x x = true := by
  obtain ⟨X, hX, _⟩ := hx
  show (FloatKind.f32.format.order x x == some .eq) = true
  rw [qv_cmp hX hX, compare_eq.2 rfl]; rfl
theorem qv_gt (hx : qv x p) (hy : qv y q) (h : q < p) : fcmp .gtr .f32 x y = true := by
  obtain ⟨X, hX, eX⟩ := hx
  obtain ⟨Y, hY, eY⟩ := hy
  show (FloatKind.f32.format.order x y == some .gt) = true
  have : Y < X := by
    rcases (by omega : Y < X ∨ X ≤ Y) with g | g
    · exact g
    · have := q_of_i eX eY g; grind
  rw [qv_cmp hX hY, Int.compare_eq_gt.2 this]; rfl
theorem qv_ngt (hx : qv x p) (hy : qv y q) (h : p ≤ q) : fcmp .gtr .f32 x y = false := by
  obtain ⟨X, hX, eX⟩ := hx
  obtain ⟨Y, hY, eY⟩ := hy
  show (FloatKind.f32.format.order x y == some .gt) = false
  have := i_of_q eX eY h
  rw [qv_cmp hX hY]
  rcases Int.lt_trichotomy X Y with h | h | h
  · rw [Int.compare_eq_lt.2 h]; rfl
  · rw [compare_eq.2 h]; rfl
  · omega
theorem qv_le (hx : qv x p) (hy : qv y q) (h : p ≤ q) : fcmp .leq .f32 x y = true := by
  obtain ⟨X, hX, eX⟩ := hx
  obtain ⟨Y, hY, eY⟩ := hy
  show (FloatKind.f32.format.order x y == some .lt || FloatKind.f32.format.order x y == some .eq) = true
  have := i_of_q eX eY h
  rw [qv_cmp hX hY]
  rcases Int.lt_trichotomy X Y with h | h | h
  · rw [Int.compare_eq_lt.2 h]; rfl
  · rw [compare_eq.2 h]; rfl
  · omega
theorem qv_can (hx : qv x p) : Can .f32 x := by
  obtain ⟨X, hX, _⟩ := hx
  exact hX.can
/-- Multiples of a 128th. -/
theorem qv_dy {v : Int} (h : dy .f32 x v) : qv x ((v : Rat) / 128) := by
  refine ⟨_, apx_dy h, ?_⟩
  have e : (2 : Int) ^ dyU .f32 * 128 = 16777216 * UU := by
    rw [BB_is]; decide
  have e2 := congrArg (fun z : Int => (z : Rat)) e
  simp only [Rat.intCast_mul] at e2
  have e3 : WW = (((2 : Int) ^ dyU .f32 : Int) : Rat) * 128 := by
    unfold WW
    rw [← e, Rat.intCast_mul]; rfl
  rw [Rat.intCast_mul, e3]
  generalize (((2 : Int) ^ dyU .f32 : Int) : Rat) = u
  grind
end
end Go.Proofs.Ytpoigbpaeniikaa


namespace Go.Proofs.Ytpoigbpaeniikaa
open Go.RowKit

attribute [local irreducible] D9 D7 UU WW W9
def Rg (a A : Rat) : Prop := -A ≤ a ∧ a ≤ A
theorem rmul {a b A B : Rat} (h1 : Rg a A) (h2 : Rg b B) : Rg (a * b) (A * B) := by
  obtain ⟨h1, h2'⟩ := h1
  obtain ⟨h3, h4⟩ := h2
  have g1 := Rat.mul_nonneg (show 0 ≤ A - a by grind) (show 0 ≤ B - b by grind)
  have g2 := Rat.mul_nonneg (show 0 ≤ A + a by grind) (show 0 ≤ B + b by grind)
  have g3 := Rat.mul_nonneg (show 0 ≤ A - a by grind) (show 0 ≤ B + b by grind)
  have g4 := Rat.mul_nonneg (show 0 ≤ A + a by grind) (show 0 ≤ B - b by grind)
  exact ⟨by grind, by grind⟩
section
variable {p q : CP} {a b A B S c d u D K : Rat} {k : Nat}
theorem Rg.mono (h : Rg a A) (hAB : A ≤ B) : Rg a B := ⟨by have := h.1; grind, by have := h.2; grind⟩
theorem Rg.one (h : Rg a A) : Rg a (A * 1) := by rw [Rat.mul_one]; exact h
theorem Rg.one' (h : Rg a (A * 1)) : Rg a A := by rw [Rat.mul_one] at h; exact h
theorem Rg.add (h1 : Rg a A) (h2 : Rg b B) : Rg (a + b) (A + B) := ⟨by have := h1.1; have := h2.1; grind, by have := h1.2; have := h2.2; grind⟩
theorem Rg.sub (h1 : Rg a A) (h2 : Rg b B) : Rg (a - b) (A + B) := ⟨by have := h1.1; have := h2.2; grind, by have := h1.2; have := h2.1; grind⟩
theorem pw2_mul (j : Nat) {J : Rat} (hJ : ((2 ^ j : Nat) : Rat) = J) (h : pw2 k K) : pw2 (k + j) (J * K) := by
  unfold pw2 at *
  rw [h, ← hJ, ← Rat.natCast_mul, ← Nat.pow_add, Nat.add_comm]
theorem pw2_nn (h : pw2 k K) : 0 ≤ K := by rw [h]; exact Rat.natCast_nonneg
theorem q_T (hS : 0 ≤ S) (hK : pw2 k (c * S)) (hk : k ≤ 70) (hp : cq p a) (hq : cq q b) (ha : Rg a A) (hb : Rg b (B * S)) (hc : A * B ≤ c) (hD : A * B + c / 16777216 ≤ D) :
    tOk p q ∧ ∃ z, cq (cT p q) z ∧ Rg (z - a * b) (c / 16777216 * S) ∧ Rg z (D * S) := by
  have h1 := rmul ha hb
  have h2 := Rat.mul_le_mul_of_nonneg_right hc hS
  have h3 := Rat.mul_le_mul_of_nonneg_right hD hS
  obtain ⟨h4, h5⟩ := h1
  obtain ⟨e1, z, e2, e3, e4⟩ := cq_t hK hk hp hq (by grind) (by grind)
  exact ⟨e1, z, e2, ⟨by grind, by grind⟩, ⟨by grind, by grind⟩⟩
theorem q_M (hS : 0 ≤ S) (hK : pw2 k (c * S)) (hk : k ≤ 70) (hp : cq p a) (hq : cq q b) (ha : Rg a (A * S)) (hb : Rg b (B * S)) (hc : A + B ≤ c) (hD : A + B + c / 16777216 ≤ D) :
    ∃ z, cq (cM p q) z ∧ Rg (z - (a - b)) (c / 16777216 * S) ∧ Rg z (D * S) := by
  have h2 := Rat.mul_le_mul_of_nonneg_right hc hS
  have h3 := Rat.mul_le_mul_of_nonneg_right hD hS
  obtain ⟨h4, h5⟩ := ha
  obtain ⟨h6, h7⟩ := hb
  obtain ⟨z, e2, e3, e4⟩ := cq_m hK hk hp hq (by grind) (by grind)
  exact ⟨z, e2, ⟨by grind, by grind⟩, ⟨by grind, by grind⟩⟩
theorem p8 : pw2 3 8 := rfl
theorem p64 : pw2 6 64 := rfl
theorem q_D {d' u' : Rat} (hp : cq p a) (hq : cq q b) (ha : d ≤ a) (ha' : a ≤ u) (hb : Rg b B) (hc : u + B ≤ 8) (hc' : B ≤ 8 + d) (hd : d' ≤ d - B - 8 / 16777216) (hu : u + B + 8 / 16777216 ≤ u') :
    ∃ z, cq (cM p q) z ∧ Rg (z - (a - b)) (8 / 16777216) ∧ d' ≤ z ∧ z ≤ u' := by
  obtain ⟨h6, h7⟩ := hb
  obtain ⟨z, e2, e3, e4⟩ := cq_m p8 (by decide) hp hq (by grind) (by grind)
  exact ⟨z, e2, ⟨by grind, by grind⟩, by grind, by grind⟩
theorem rdiv {z M X : Rat} (hd : 0 < d) (hb : d ≤ b) (hX : 0 ≤ X) (h : z * b ≤ M) (hM : M ≤ X * d) : z ≤ X := by
  have h1 := Rat.mul_le_mul_of_nonneg_left hb hX
  exact Rat.le_of_mul_le_mul_right (c := b) (by grind) (by grind)
theorem q_O (hS : 0 ≤ S) (hK : pw2 k (c * S)) (hk : k ≤ 70) (hp : cq p a) (hq : cq q b) (hd : 0 < d) (hb : d ≤ b) (hu : b ≤ u) (ha : Rg a (A * S)) (hc : A ≤ c * 1023 / 1024 * d) (hX : A ≤ B * d) (hB : 0 ≤ B) (hD : B + c / 16000000 ≤ D) :
    oOk p q ∧ ∃ z, cq (cO p q) z ∧ Rg (z * b - a) (c / 16000000 * u * S) ∧ Rg z (D * S) := by
  have hK0 := pw2_nn hK
  have h1 := Rat.mul_le_mul_of_nonneg_right hc hS
  have h2 := Rat.mul_le_mul_of_nonneg_right hX hS
  have h3 := Rat.mul_le_mul_of_nonneg_right hD hS
  have h4 := Rat.mul_le_mul_of_nonneg_left hb hK0
  have h5 := Rat.mul_le_mul_of_nonneg_left hu hK0
  have h6 := Rat.mul_nonneg hB hS
  obtain ⟨g1, g2⟩ := ha
  obtain ⟨e1, z, e2, e3, e4⟩ := cq_o hK hk hp hq (by grind) (by grind) (by grind)
  have z1 : z - c * S / 16000000 ≤ B * S := rdiv (b := b) hd hb h6 (M := A * S) (by grind) (by grind)
  have z2 : -z - c * S / 16000000 ≤ B * S := rdiv (b := b) hd hb h6 (M := A * S) (by grind) (by grind)
  exact ⟨e1, z, e2, ⟨by grind, by grind⟩, ⟨by grind, by grind⟩⟩
theorem q_Pd (hp : cq p a) (hd : 0 ≤ d) (ha : d ≤ a) (ha' : a ≤ u) (hu : u * u ≤ 64) : fover .f64 .f32 (pw64 p.1 p.2) = false ∧ ∃ z, qv (pwr p.1 p.2) z ∧ d * d - 64 / 16777216 ≤ z := by
  have h1 := Rat.mul_nonneg (show 0 ≤ a - d by grind) (show 0 ≤ a + d by grind)
  have h2 := Rat.mul_nonneg (show 0 ≤ u - a by grind) (show 0 ≤ u + a by grind)
  obtain ⟨e1, z, e2, e3, e4⟩ := cq_p p64 (by decide) hp (by grind)
  exact ⟨e1, z, e2, by grind⟩
theorem q_Po (hp : cq p a) (ha : Rg a A) (hu : A * A ≤ 64) : fover .f64 .f32 (pw64 p.1 p.2) = false ∧ ∃ z, qv (pwr p.1 p.2) z ∧ z ≤ A * A + 64 / 16777216 := by
  have h1 := rmul ha ha
  obtain ⟨h2, h3⟩ := h1
  obtain ⟨e1, z, e2, e3, e4⟩ := cq_p p64 (by decide) hp (by grind)
  exact ⟨e1, z, e2, by grind⟩
end
theorem qv_zero : qv 0 0 := by
  refine ⟨0, ?_, by simp⟩
  refine ⟨by decide, by decide, ?_⟩
  have h : rng FloatKind.f32.format 0 = 0 := by decide
  have h2 : sgn FloatKind.f32.format 0 = false := by decide
  unfold sval
  rw [h, h2, (units_zero FloatKind.f32.format).2 rfl]; rfl
/-- One row, from the row that takes it away and from what is left. -/
theorem elim_row {f a0 a1 a2 b0 x0 x1 x2 c0 c1 c2 b1 e1 e2 y F R E0 E1 E2 Z T m : Rat} (hr : Rg (a0 * x0 + a1 * x1 + a2 * x2 - b0) R) (hf : Rg f F) (h0 : Rg (f * a0 - c0) E0) (h1 : Rg (e1 - (c1 - f * a1)) E1) (h2 : Rg (e2 - (c2 - f * a2)) E2)
    (hz : Rg (y - (b1 - f * b0)) Z) (ht : Rg (e1 * x1 + e2 * x2 - y) T) (m0 : Rg x0 m) (m1 : Rg x1 m) (m2 : Rg x2 m) : Rg (c0 * x0 + c1 * x1 + c2 * x2 - b1) (F * R + T + Z + (E0 + E1 + E2) * m) := by
  obtain ⟨p1, p2⟩ := rmul hf hr
  obtain ⟨q1, q2⟩ := rmul h0 m0
  obtain ⟨r1, r2⟩ := rmul h1 m1
  obtain ⟨s1, s2⟩ := rmul h2 m2
  obtain ⟨t1, t2⟩ := hz
  obtain ⟨u1, u2⟩ := ht
  clear hr hf h0 h1 h2 m0 m1 m2
  exact ⟨by grind, by grind⟩
end Go.Proofs.Ytpoigbpaeniikaa


namespace Go.Proofs.Ytpoigbpaeniikaa
open Go.RowKit

attribute [local irreducible] D9 D7 UU WW W9
set_option maxRecDepth 20000
set_option linter.unusedVariables false
theorem p0 : pw2 0 1 := rfl
theorem p1 : pw2 1 2 := rfl
theorem p0' : pw2 0 (1 * 1) := by rw [Rat.mul_one]; exact p0
theorem p1' : pw2 1 (2 * 1) := by rw [Rat.mul_one]; exact p1
theorem s1nn : (0 : Rat) ≤ 1 := by decide

theorem sol1 {A : Nat → Nat → CP} {B : Nat → CP} {S a00 b0 : Rat} {s : Nat} (hS : pw2 s S) (hs : s ≤ 60) (c_a00 : cq (A 0 0) a00) (c_b0 : cq (B 0) b0) (l_a00 : 2 ≤ a00) (g_a00 : a00 ≤ 13 / 2)  (r_b0 : Rg b0 (142 / 10 * S)) :
    SOk 1 A B ∧ ∃ x0 : Rat, cq (BF 1 (EF A 1) (XF A B 1) 1 0) x0 ∧ Rg x0 (287 / 10 * S) ∧ ∀ m, 0 ≤ m → Rg x0 m → Rg (a00 * x0 - b0) (250 / 16000000 * S + 0 / 16000000 * m) := by
  have hS0 := pw2_nn hS
  obtain ⟨t_x0, v_x0, c_x0, e_x0, r_x0⟩ := q_O (S := S) (c := 32) (B := (2866 / 100)) (D := (287 / 10)) hS0 (pw2_mul 5 (J := 32) rfl hS) (by omega) c_b0 c_a00 (by decide +kernel) l_a00 g_a00 r_b0 (by decide +kernel) (by decide +kernel) (by decide +kernel) (by decide +kernel)
  obtain ⟨f_d0, w_d0, q_d0, y_d0⟩ := q_Pd c_a00 (by decide +kernel) l_a00 g_a00 (by decide +kernel)
  have E0 : ∀ i j, EF A 0 i j = A i j := EF_zero A
  have Y0 : ∀ i, XF A B 0 i = B i := XF_zero A B
  have U0 : ∀ j, EF A 1 0 j = A 0 j := fun j => by rw [EF_out (by omega), E0]
  have V0 : XF A B 1 0 = B 0 := by rw [XF_out (by omega), Y0]
  have S00 : BS (EF A 1) (BF 1 (EF A 1) (XF A B 1) 0) 0 0 = B 0 := by rw [BS_zero, BF_zero, V0]
  have X0_1 : BF 1 (EF A 1) (XF A B 1) 1 0 = cO (B 0) (A 0 0) := by rw [BF_here (by decide), S00, U0]
  refine ⟨⟨?_, ?_, ?_, ?_, ?_, ?_, ?_, ?_, ?_⟩, v_x0, by rw [X0_1]; exact c_x0, r_x0, ?_⟩
  · intro k r h0 h1
    rcases (by omega : (k = 0 ∧ r = 0)) with ⟨rfl, rfl⟩
    · rw [E0 0 0]; exact f_d0
  · intros; omega
  · intro k h0
    rcases (by omega : (k = 0)) with ⟨rfl⟩
    · rw [E0 0 0]; exact qv_self q_d0
  · intro k h0
    rcases (by omega : (k = 0)) with ⟨rfl⟩
    · rw [E0 0 0]; exact qv_gt q_d0 qv_zero (by grind)
  · intros; omega
  · intros; omega
  · intros; omega
  · intros; omega
  · intro t d h0
    rcases (by omega : (t = 0 ∧ d = 0)) with ⟨rfl, rfl⟩
    · rw [S00, U0]; exact t_x0
  intro m hm m0
  have z0 : Rg (0 : Rat) 0 := ⟨by decide +kernel, by decide +kernel⟩
  have zm : Rg (0 : Rat) m := ⟨by grind, hm⟩
  refine Rg.mono (A := 32 / 16000000 * (13 / 2) * S) ?_ (by grind)
  obtain ⟨u1, u2⟩ := e_x0
  exact ⟨by grind, by grind⟩

theorem sol2 {A : Nat → Nat → CP} {B : Nat → CP} {S a00 a01 a10 a11 b0 b1 : Rat} {s : Nat} (hS : pw2 s S) (hs : s ≤ 60) (c_a00 : cq (A 0 0) a00) (c_a01 : cq (A 0 1) a01) (c_a10 : cq (A 1 0) a10) (c_a11 : cq (A 1 1) a11) (c_b0 : cq (B 0) b0) (c_b1 : cq (B 1) b1) (l_a00 : 2 ≤ a00) (g_a00 : a00 ≤ 13 / 2) (l_a11 : 2 ≤ a11) (g_a11 : a11 ≤ 13 / 2) (r_a01 : Rg a01 (3 / 4)) (r_a10 : Rg a10 (3 / 4)) (r_b0 : Rg b0 (142 / 10 * S)) (r_b1 : Rg b1 (142 / 10 * S)) :
    SOk 2 A B ∧ ∃ x0 x1 : Rat, cq (BF 2 (EF A 2) (XF A B 2) 2 0) x0 ∧ Rg x0 (287 / 10 * S) ∧ cq (BF 2 (EF A 2) (XF A B 2) 2 1) x1 ∧ Rg x1 (287 / 10 * S) ∧ ∀ m, 0 ≤ m → Rg x0 m → Rg x1 m → Rg (a00 * x0 + a01 * x1 - b0) (350 / 16000000 * S + 0 / 16000000 * m) ∧ Rg (a10 * x0 + a11 * x1 - b1) (500 / 16000000 * S + 25 / 16000000 * m) := by
  have hS0 := pw2_nn hS
  obtain ⟨t_f1, v_f1, c_f1, e_f1, r_f1⟩ := q_O (S := 1) (c := 1) (B := (3 / 8)) (D := (3751 / 10000)) s1nn p0' (by decide +kernel) c_a10 c_a00 (by decide +kernel) l_a00 g_a00 (Rg.one r_a10) (by decide +kernel) (by decide +kernel) (by decide +kernel) (by decide +kernel)
  replace r_f1 := Rg.one' r_f1
  rw [Rat.mul_one] at e_f1
  obtain ⟨t_p11, v_p11, c_p11, e_p11, r_p11⟩ := q_T (S := 1) (c := 1) (D := (2815 / 10000)) s1nn p0' (by decide) c_f1 c_a01 r_f1 (Rg.one r_a01) (by decide +kernel) (by decide +kernel)
  replace r_p11 := Rg.one' r_p11
  rw [Rat.mul_one] at e_p11
  obtain ⟨v_e11, c_e11, e_e11, l_e11, g_e11⟩ := q_D (d' := (1717 / 1000)) (u' := (6783 / 1000)) c_a11 c_p11 l_a11 g_a11 r_p11 (by decide +kernel) (by decide +kernel) (by decide +kernel) (by decide +kernel)
  obtain ⟨t_q1, v_q1, c_q1, e_q1, r_q1⟩ := q_T (S := S) (c := 8) (D := (5327 / 1000)) hS0 (pw2_mul 3 (J := 8) rfl hS) (by omega) c_f1 c_b0 r_f1 r_b0 (by decide +kernel) (by decide +kernel)
  obtain ⟨v_y1, c_y1, e_y1, r_y1⟩ := q_M (S := S) (c := 32) (D := (1953 / 100)) hS0 (pw2_mul 5 (J := 32) rfl hS) (by omega) c_b1 c_q1 r_b1 r_q1 (by decide +kernel) (by decide +kernel)
  obtain ⟨t_x1, v_x1, c_x1, e_x1, r_x1⟩ := q_O (S := S) (c := 32) (B := (2866 / 100)) (D := (287 / 10)) hS0 (pw2_mul 5 (J := 32) rfl hS) (by omega) c_y1 c_e11 (by decide +kernel) l_e11 g_e11 r_y1 (by decide +kernel) (by decide +kernel) (by decide +kernel) (by decide +kernel)
  obtain ⟨t_t01, v_t01, c_t01, e_t01, r_t01⟩ := q_T (S := S) (c := 32) (D := (2153 / 100)) hS0 (pw2_mul 5 (J := 32) rfl hS) (by omega) c_a01 c_x1 r_a01 r_x1 (by decide +kernel) (by decide +kernel)
  obtain ⟨v_v0, c_v0, e_v0, r_v0⟩ := q_M (S := S) (c := 64) (D := (3574 / 100)) hS0 (pw2_mul 6 (J := 64) rfl hS) (by omega) c_b0 c_t01 r_b0 r_t01 (by decide +kernel) (by decide +kernel)
  obtain ⟨t_x0, v_x0, c_x0, e_x0, r_x0⟩ := q_O (S := S) (c := 32) (B := (2866 / 100)) (D := (287 / 10)) hS0 (pw2_mul 5 (J := 32) rfl hS) (by omega) c_v0 c_a00 (by decide +kernel) l_a00 g_a00 r_v0 (by decide +kernel) (by decide +kernel) (by decide +kernel) (by decide +kernel)
  obtain ⟨f_d0, w_d0, q_d0, y_d0⟩ := q_Pd c_a00 (by decide +kernel) l_a00 g_a00 (by decide +kernel)
  obtain ⟨f_d1, w_d1, q_d1, y_d1⟩ := q_Pd c_e11 (by decide +kernel) l_e11 g_e11 (by decide +kernel)
  obtain ⟨f_o01, w_o01, q_o01, y_o01⟩ := q_Po c_a10 r_a10 (by decide +kernel)
  have E0 : ∀ i j, EF A 0 i j = A i j := EF_zero A
  have Y0 : ∀ i, XF A B 0 i = B i := XF_zero A B
  have E11 : EF A 1 1 1 = cM (A 1 1) (cT (cO (A 1 0) (A 0 0)) (A 0 1)) := by rw [EF_in (by decide) (by decide)]; rfl
  have Y11 : XF A B 1 1 = cM (B 1) (cT (cO (A 1 0) (A 0 0)) (B 0)) := by rw [XF_in (by decide)]; rfl
  have U0 : ∀ j, EF A 2 0 j = A 0 j := fun j => by rw [EF_out (by omega), EF_out (by omega), E0]
  have V0 : XF A B 2 0 = B 0 := by rw [XF_out (by omega), XF_out (by omega), Y0]
  have U11 : EF A 2 1 1 = cM (A 1 1) (cT (cO (A 1 0) (A 0 0)) (A 0 1)) := by rw [EF_out (by omega), E11]
  have V1 : XF A B 2 1 = cM (B 1) (cT (cO (A 1 0) (A 0 0)) (B 0)) := by rw [XF_out (by omega), Y11]
  have S10 : BS (EF A 2) (BF 2 (EF A 2) (XF A B 2) 0) 1 0 = cM (B 1) (cT (cO (A 1 0) (A 0 0)) (B 0)) := by rw [BS_zero, BF_zero, V1]
  have X1_1 : BF 2 (EF A 2) (XF A B 2) 1 1 = cO (cM (B 1) (cT (cO (A 1 0) (A 0 0)) (B 0))) (cM (A 1 1) (cT (cO (A 1 0) (A 0 0)) (A 0 1))) := by rw [BF_here (by decide), S10, U11]
  have X1_2 : BF 2 (EF A 2) (XF A B 2) 2 1 = cO (cM (B 1) (cT (cO (A 1 0) (A 0 0)) (B 0))) (cM (A 1 1) (cT (cO (A 1 0) (A 0 0)) (A 0 1))) := by rw [BF_else (by decide), X1_1]
  have S00 : BS (EF A 2) (BF 2 (EF A 2) (XF A B 2) 1) 0 0 = B 0 := by rw [BS_zero, BF_else (by decide), BF_zero, V0]
  have S01 : BS (EF A 2) (BF 2 (EF A 2) (XF A B 2) 1) 0 1 = cM (B 0) (cT (A 0 1) (cO (cM (B 1) (cT (cO (A 1 0) (A 0 0)) (B 0))) (cM (A 1 1) (cT (cO (A 1 0) (A 0 0)) (A 0 1))))) := by rw [BS_succ, S00, U0, X1_1]
  have X0_2 : BF 2 (EF A 2) (XF A B 2) 2 0 = cO (cM (B 0) (cT (A 0 1) (cO (cM (B 1) (cT (cO (A 1 0) (A 0 0)) (B 0))) (cM (A 1 1) (cT (cO (A 1 0) (A 0 0)) (A 0 1)))))) (A 0 0) := by rw [BF_here (by decide), S01, U0]
  refine ⟨⟨?_, ?_, ?_, ?_, ?_, ?_, ?_, ?_, ?_⟩, v_x0, v_x1, by rw [X0_2]; exact c_x0, r_x0, by rw [X1_2]; exact c_x1, r_x1, ?_⟩
  · intro k r h0 h1
    rcases (by omega : (k = 0 ∧ r = 0) ∨ (k = 0 ∧ r = 1) ∨ (k = 1 ∧ r = 1)) with ⟨rfl, rfl⟩ | ⟨rfl, rfl⟩ | ⟨rfl, rfl⟩
    · rw [E0 0 0]; exact f_d0
    · rw [E0 1 0]; exact f_o01
    · rw [E11]; exact f_d1
  · intro k r h0 h1
    rcases (by omega : (k = 0 ∧ r = 1)) with ⟨rfl, rfl⟩
    · rw [E0 1 0, E0 0 0]; exact qv_ngt q_o01 q_d0 (by grind)
  · intro k h0
    rcases (by omega : (k = 0) ∨ (k = 1)) with ⟨rfl⟩ | ⟨rfl⟩
    · rw [E0 0 0]; exact qv_self q_d0
    · rw [E11]; exact qv_self q_d1
  · intro k h0
    rcases (by omega : (k = 0) ∨ (k = 1)) with ⟨rfl⟩ | ⟨rfl⟩
    · rw [E0 0 0]; exact qv_gt q_d0 qv_zero (by grind)
    · rw [E11]; exact qv_gt q_d1 qv_zero (by grind)
  · intro k r h0 h1
    rcases (by omega : (k = 0 ∧ r = 1)) with ⟨rfl, rfl⟩
    · rw [E0 1 0, E0 0 0]; exact t_f1
  · intro k r c h0 h1 h2 h3
    rcases (by omega : (k = 0 ∧ r = 1 ∧ c = 1)) with ⟨rfl, rfl, rfl⟩
    · rw [E0 1 0, E0 0 0, E0 0 1]; exact t_p11
  · intro k r h0 h1
    rcases (by omega : (k = 0 ∧ r = 1)) with ⟨rfl, rfl⟩
    · rw [E0 1 0, E0 0 0, Y0]; exact t_q1
  · intro t d e h0 h1
    rcases (by omega : (t = 0 ∧ d = 1 ∧ e = 0)) with ⟨rfl, rfl, rfl⟩
    · show tOk (EF A 2 0 1) (BF 2 (EF A 2) (XF A B 2) 1 1); rw [U0, X1_1]; exact t_t01
  · intro t d h0
    rcases (by omega : (t = 0 ∧ d = 1) ∨ (t = 1 ∧ d = 0)) with ⟨rfl, rfl⟩ | ⟨rfl, rfl⟩
    · rw [S01, U0]; exact t_x0
    · rw [S10, U11]; exact t_x1
  intro m hm m0 m1
  have z0 : Rg (0 : Rat) 0 := ⟨by decide +kernel, by decide +kernel⟩
  have zm : Rg (0 : Rat) m := ⟨by grind, hm⟩
  have r0 : Rg (a00 * v_x0 + a01 * v_x1 + 0 * 0 - b0) (304 / 16000000 * S) := by
    have h := (e_x0.add e_v0).sub e_t01
    obtain ⟨u1, u2⟩ := h
    exact ⟨by grind, by grind⟩
  have t1 : Rg (v_e11 * v_x1 + 0 * 0 - v_y1) (32 / 16000000 * (6783 / 1000) * S) := by
    obtain ⟨u1, u2⟩ := e_x1
    exact ⟨by grind, by grind⟩
  have h1 : Rg (v_e11 - (a11 - v_f1 * a01)) (9 / 16000000) := by
    have h := e_e11.sub e_p11
    obtain ⟨u1, u2⟩ := h
    exact ⟨by grind, by grind⟩
  have hz : Rg (v_y1 - (b1 - v_f1 * b0)) (40 / 16000000 * S) := by
    have h := e_y1.sub e_q1
    obtain ⟨u1, u2⟩ := h
    exact ⟨by grind, by grind⟩
  have k1 := elim_row (c2 := 0) (e2 := 0) (E2 := 0) r0 r_f1 e_f1 h1 (by rw [Rat.mul_zero]; exact ⟨by decide +kernel, by decide +kernel⟩) hz t1 m0 m1 zm
  constructor
  · refine Rg.mono (A := 304 / 16000000 * S) ?_ (by grind)
    obtain ⟨u1, u2⟩ := r0
    exact ⟨by grind, by grind⟩
  · obtain ⟨u1, u2⟩ := k1
    exact ⟨by grind, by grind⟩

theorem sol3 {A : Nat → Nat → CP} {B : Nat → CP} {S a00 a01 a02 a10 a11 a12 a20 a21 a22 b0 b1 b2 : Rat} {s : Nat} (hS : pw2 s S) (hs : s ≤ 60) (c_a00 : cq (A 0 0) a00) (c_a01 : cq (A 0 1) a01) (c_a02 : cq (A 0 2) a02) (c_a10 : cq (A 1 0) a10) (c_a11 : cq (A 1 1) a11) (c_a12 : cq (A 1 2) a12) (c_a20 : cq (A 2 0) a20) (c_a21 : cq (A 2 1) a21) (c_a22 : cq (A 2 2) a22) (c_b0 : cq (B 0) b0) (c_b1 : cq (B 1) b1) (c_b2 : cq (B 2) b2) (l_a00 : 2 ≤ a00) (g_a00 : a00 ≤ 13 / 2) (l_a11 : 2 ≤ a11) (g_a11 : a11 ≤ 13 / 2) (l_a22 : 2 ≤ a22) (g_a22 : a22 ≤ 13 / 2) (r_a01 : Rg a01 (3 / 4)) (r_a02 : Rg a02 (3 / 4)) (r_a10 : Rg a10 (3 / 4)) (r_a12 : Rg a12 (3 / 4)) (r_a20 : Rg a20 (3 / 4)) (r_a21 : Rg a21 (3 / 4)) (r_b0 : Rg b0 (142 / 10 * S)) (r_b1 : Rg b1 (142 / 10 * S)) (r_b2 : Rg b2 (142 / 10 * S)) :
    SOk 3 A B ∧ ∃ x0 x1 x2 : Rat, cq (BF 3 (EF A 3) (XF A B 3) 3 0) x0 ∧ Rg x0 (287 / 10 * S) ∧ cq (BF 3 (EF A 3) (XF A B 3) 3 1) x1 ∧ Rg x1 (287 / 10 * S) ∧ cq (BF 3 (EF A 3) (XF A B 3) 3 2) x2 ∧ Rg x2 (287 / 10 * S) ∧ ∀ m, 0 ≤ m → Rg x0 m → Rg x1 m → Rg x2 m → Rg (a00 * x0 + a01 * x1 + a02 * x2 - b0) (450 / 16000000 * S + 0 / 16000000 * m) ∧ Rg (a10 * x0 + a11 * x1 + a12 * x2 - b1) (600 / 16000000 * S + 30 / 16000000 * m) ∧ Rg (a20 * x0 + a21 * x1 + a22 * x2 - b2) (850 / 16000000 * S + 60 / 16000000 * m) := by
  have hS0 := pw2_nn hS
  obtain ⟨t_f1, v_f1, c_f1, e_f1, r_f1⟩ := q_O (S := 1) (c := 1) (B := (3 / 8)) (D := (3751 / 10000)) s1nn p0' (by decide +kernel) c_a10 c_a00 (by decide +kernel) l_a00 g_a00 (Rg.one r_a10) (by decide +kernel) (by decide +kernel) (by decide +kernel) (by decide +kernel)
  replace r_f1 := Rg.one' r_f1
  rw [Rat.mul_one] at e_f1
  obtain ⟨t_p11, v_p11, c_p11, e_p11, r_p11⟩ := q_T (S := 1) (c := 1) (D := (2815 / 10000)) s1nn p0' (by decide) c_f1 c_a01 r_f1 (Rg.one r_a01) (by decide +kernel) (by decide +kernel)
  replace r_p11 := Rg.one' r_p11
  rw [Rat.mul_one] at e_p11
  obtain ⟨v_e11, c_e11, e_e11, l_e11, g_e11⟩ := q_D (d' := (1717 / 1000)) (u' := (6783 / 1000)) c_a11 c_p11 l_a11 g_a11 r_p11 (by decide +kernel) (by decide +kernel) (by decide +kernel) (by decide +kernel)
  obtain ⟨t_q1, v_q1, c_q1, e_q1, r_q1⟩ := q_T (S := S) (c := 8) (D := (5327 / 1000)) hS0 (pw2_mul 3 (J := 8) rfl hS) (by omega) c_f1 c_b0 r_f1 r_b0 (by decide +kernel) (by decide +kernel)
  obtain ⟨v_y1, c_y1, e_y1, r_y1⟩ := q_M (S := S) (c := 32) (D := (1953 / 100)) hS0 (pw2_mul 5 (J := 32) rfl hS) (by omega) c_b1 c_q1 r_b1 r_q1 (by decide +kernel) (by decide +kernel)
  obtain ⟨t_f2, v_f2, c_f2, e_f2, r_f2⟩ := q_O (S := 1) (c := 1) (B := (3 / 8)) (D := (3751 / 10000)) s1nn p0' (by decide +kernel) c_a20 c_a00 (by decide +kernel) l_a00 g_a00 (Rg.one r_a20) (by decide +kernel) (by decide +kernel) (by decide +kernel) (by decide +kernel)
  replace r_f2 := Rg.one' r_f2
  rw [Rat.mul_one] at e_f2
  obtain ⟨t_p12, v_p12, c_p12, e_p12, r_p12⟩ := q_T (S := 1) (c := 1) (D := (2815 / 10000)) s1nn p0' (by decide) c_f1 c_a02 r_f1 (Rg.one r_a02) (by decide +kernel) (by decide +kernel)
  replace r_p12 := Rg.one' r_p12
  rw [Rat.mul_one] at e_p12
  obtain ⟨v_e12, c_e12, e_e12, r_e12⟩ := q_M (S := 1) (c := 2) (D := (1033 / 1000)) s1nn p1' (by decide +kernel) c_a12 c_p12 (Rg.one r_a12) (Rg.one r_p12) (by decide +kernel) (by decide +kernel)
  replace r_e12 := Rg.one' r_e12
  rw [Rat.mul_one] at e_e12
  obtain ⟨t_p21, v_p21, c_p21, e_p21, r_p21⟩ := q_T (S := 1) (c := 1) (D := (2815 / 10000)) s1nn p0' (by decide) c_f2 c_a01 r_f2 (Rg.one r_a01) (by decide +kernel) (by decide +kernel)
  replace r_p21 := Rg.one' r_p21
  rw [Rat.mul_one] at e_p21
  obtain ⟨v_e21, c_e21, e_e21, r_e21⟩ := q_M (S := 1) (c := 2) (D := (1033 / 1000)) s1nn p1' (by decide +kernel) c_a21 c_p21 (Rg.one r_a21) (Rg.one r_p21) (by decide +kernel) (by decide +kernel)
  replace r_e21 := Rg.one' r_e21
  rw [Rat.mul_one] at e_e21
  obtain ⟨t_p22, v_p22, c_p22, e_p22, r_p22⟩ := q_T (S := 1) (c := 1) (D := (2815 / 10000)) s1nn p0' (by decide) c_f2 c_a02 r_f2 (Rg.one r_a02) (by decide +kernel) (by decide +kernel)
  replace r_p22 := Rg.one' r_p22
  rw [Rat.mul_one] at e_p22
  obtain ⟨v_e22, c_e22, e_e22, l_e22, g_e22⟩ := q_D (d' := (1717 / 1000)) (u' := (6783 / 1000)) c_a22 c_p22 l_a22 g_a22 r_p22 (by decide +kernel) (by decide +kernel) (by decide +kernel) (by decide +kernel)
  obtain ⟨t_q2, v_q2, c_q2, e_q2, r_q2⟩ := q_T (S := S) (c := 8) (D := (5327 / 1000)) hS0 (pw2_mul 3 (J := 8) rfl hS) (by omega) c_f2 c_b0 r_f2 r_b0 (by decide +kernel) (by decide +kernel)
  obtain ⟨v_z2, c_z2, e_z2, r_z2⟩ := q_M (S := S) (c := 32) (D := (1953 / 100)) hS0 (pw2_mul 5 (J := 32) rfl hS) (by omega) c_b2 c_q2 r_b2 r_q2 (by decide +kernel) (by decide +kernel)
  obtain ⟨t_g, v_g, c_g, e_g, r_g⟩ := q_O (S := 1) (c := 1) (B := (6017 / 10000)) (D := (602 / 1000)) s1nn p0' (by decide +kernel) c_e21 c_e11 (by decide +kernel) l_e11 g_e11 (Rg.one r_e21) (by decide +kernel) (by decide +kernel) (by decide +kernel) (by decide +kernel)
  replace r_g := Rg.one' r_g
  rw [Rat.mul_one] at e_g
  obtain ⟨t_gp, v_gp, c_gp, e_gp, r_gp⟩ := q_T (S := 1) (c := 1) (D := (622 / 1000)) s1nn p0' (by decide) c_g c_e12 r_g (Rg.one r_e12) (by decide +kernel) (by decide +kernel)
  replace r_gp := Rg.one' r_gp
  rw [Rat.mul_one] at e_gp
  obtain ⟨v_h, c_h, e_h, l_h, g_h⟩ := q_D (d' := (1094 / 1000)) (u' := (7406 / 1000)) c_e22 c_gp l_e22 g_e22 r_gp (by decide +kernel) (by decide +kernel) (by decide +kernel) (by decide +kernel)
  obtain ⟨t_gy, v_gy, c_gy, e_gy, r_gy⟩ := q_T (S := S) (c := 16) (D := (1176 / 100)) hS0 (pw2_mul 4 (J := 16) rfl hS) (by omega) c_g c_y1 r_g r_y1 (by decide +kernel) (by decide +kernel)
  obtain ⟨v_y2, c_y2, e_y2, r_y2⟩ := q_M (S := S) (c := 32) (D := (3130 / 100)) hS0 (pw2_mul 5 (J := 32) rfl hS) (by omega) c_z2 c_gy r_z2 r_gy (by decide +kernel) (by decide +kernel)
  obtain ⟨t_x2, v_x2, c_x2, e_x2, r_x2⟩ := q_O (S := S) (c := 32) (B := (2862 / 100)) (D := (287 / 10)) hS0 (pw2_mul 5 (J := 32) rfl hS) (by omega) c_y2 c_h (by decide +kernel) l_h g_h r_y2 (by decide +kernel) (by decide +kernel) (by decide +kernel) (by decide +kernel)
  obtain ⟨t_t12, v_t12, c_t12, e_t12, r_t12⟩ := q_T (S := S) (c := 32) (D := (2965 / 100)) hS0 (pw2_mul 5 (J := 32) rfl hS) (by omega) c_e12 c_x2 r_e12 r_x2 (by decide +kernel) (by decide +kernel)
  obtain ⟨v_w1, c_w1, e_w1, r_w1⟩ := q_M (S := S) (c := 64) (D := (4919 / 100)) hS0 (pw2_mul 6 (J := 64) rfl hS) (by omega) c_y1 c_t12 r_y1 r_t12 (by decide +kernel) (by decide +kernel)
  obtain ⟨t_x1, v_x1, c_x1, e_x1, r_x1⟩ := q_O (S := S) (c := 32) (B := (2866 / 100)) (D := (287 / 10)) hS0 (pw2_mul 5 (J := 32) rfl hS) (by omega) c_w1 c_e11 (by decide +kernel) l_e11 g_e11 r_w1 (by decide +kernel) (by decide +kernel) (by decide +kernel) (by decide +kernel)
  obtain ⟨t_t01, v_t01, c_t01, e_t01, r_t01⟩ := q_T (S := S) (c := 32) (D := (2153 / 100)) hS0 (pw2_mul 5 (J := 32) rfl hS) (by omega) c_a01 c_x1 r_a01 r_x1 (by decide +kernel) (by decide +kernel)
  obtain ⟨v_v0, c_v0, e_v0, r_v0⟩ := q_M (S := S) (c := 64) (D := (3574 / 100)) hS0 (pw2_mul 6 (J := 64) rfl hS) (by omega) c_b0 c_t01 r_b0 r_t01 (by decide +kernel) (by decide +kernel)
  obtain ⟨t_t02, v_t02, c_t02, e_t02, r_t02⟩ := q_T (S := S) (c := 32) (D := (2153 / 100)) hS0 (pw2_mul 5 (J := 32) rfl hS) (by omega) c_a02 c_x2 r_a02 r_x2 (by decide +kernel) (by decide +kernel)
  obtain ⟨v_w0, c_w0, e_w0, r_w0⟩ := q_M (S := S) (c := 64) (D := (5728 / 100)) hS0 (pw2_mul 6 (J := 64) rfl hS) (by omega) c_v0 c_t02 r_v0 r_t02 (by decide +kernel) (by decide +kernel)
  obtain ⟨t_x0, v_x0, c_x0, e_x0, r_x0⟩ := q_O (S := S) (c := 32) (B := (2866 / 100)) (D := (287 / 10)) hS0 (pw2_mul 5 (J := 32) rfl hS) (by omega) c_w0 c_a00 (by decide +kernel) l_a00 g_a00 r_w0 (by decide +kernel) (by decide +kernel) (by decide +kernel) (by decide +kernel)
  obtain ⟨f_d0, w_d0, q_d0, y_d0⟩ := q_Pd c_a00 (by decide +kernel) l_a00 g_a00 (by decide +kernel)
  obtain ⟨f_d1, w_d1, q_d1, y_d1⟩ := q_Pd c_e11 (by decide +kernel) l_e11 g_e11 (by decide +kernel)
  obtain ⟨f_d2, w_d2, q_d2, y_d2⟩ := q_Pd c_h (by decide +kernel) l_h g_h (by decide +kernel)
  obtain ⟨f_o01, w_o01, q_o01, y_o01⟩ := q_Po c_a10 r_a10 (by decide +kernel)
  obtain ⟨f_o02, w_o02, q_o02, y_o02⟩ := q_Po c_a20 r_a20 (by decide +kernel)
  obtain ⟨f_o12, w_o12, q_o12, y_o12⟩ := q_Po c_e21 r_e21 (by decide +kernel)
  have E0 : ∀ i j, EF A 0 i j = A i j := EF_zero A
  have Y0 : ∀ i, XF A B 0 i = B i := XF_zero A B
  have E11 : EF A 1 1 1 = cM (A 1 1) (cT (cO (A 1 0) (A 0 0)) (A 0 1)) := by rw [EF_in (by decide) (by decide)]; rfl
  have Y11 : XF A B 1 1 = cM (B 1) (cT (cO (A 1 0) (A 0 0)) (B 0)) := by rw [XF_in (by decide)]; rfl
  have E12 : EF A 1 1 2 = cM (A 1 2) (cT (cO (A 1 0) (A 0 0)) (A 0 2)) := by rw [EF_in (by decide) (by decide)]; rfl
  have E21 : EF A 1 2 1 = cM (A 2 1) (cT (cO (A 2 0) (A 0 0)) (A 0 1)) := by rw [EF_in (by decide) (by decide)]; rfl
  have E22 : EF A 1 2 2 = cM (A 2 2) (cT (cO (A 2 0) (A 0 0)) (A 0 2)) := by rw [EF_in (by decide) (by decide)]; rfl
  have Y12 : XF A B 1 2 = cM (B 2) (cT (cO (A 2 0) (A 0 0)) (B 0)) := by rw [XF_in (by decide)]; rfl
  have H22 : EF A 2 2 2 = cM (cM (A 2 2) (cT (cO (A 2 0) (A 0 0)) (A 0 2))) (cT (cO (cM (A 2 1) (cT (cO (A 2 0) (A 0 0)) (A 0 1))) (cM (A 1 1) (cT (cO (A 1 0) (A 0 0)) (A 0 1)))) (cM (A 1 2) (cT (cO (A 1 0) (A 0 0)) (A 0 2)))) := by rw [EF_in (by decide) (by decide), E11, E12, E21, E22]
  have Y22 : XF A B 2 2 = cM (cM (B 2) (cT (cO (A 2 0) (A 0 0)) (B 0))) (cT (cO (cM (A 2 1) (cT (cO (A 2 0) (A 0 0)) (A 0 1))) (cM (A 1 1) (cT (cO (A 1 0) (A 0 0)) (A 0 1)))) (cM (B 1) (cT (cO (A 1 0) (A 0 0)) (B 0)))) := by rw [XF_in (by decide), E11, E21, Y11, Y12]
  have U0 : ∀ j, EF A 3 0 j = A 0 j := fun j => by rw [EF_out (by omega), EF_out (by omega), EF_out (by omega), E0]
  have V0 : XF A B 3 0 = B 0 := by rw [XF_out (by omega), XF_out (by omega), XF_out (by omega), Y0]
  have U11 : EF A 3 1 1 = cM (A 1 1) (cT (cO (A 1 0) (A 0 0)) (A 0 1)) := by rw [EF_out (by omega), EF_out (by omega), E11]
  have U12 : EF A 3 1 2 = cM (A 1 2) (cT (cO (A 1 0) (A 0 0)) (A 0 2)) := by rw [EF_out (by omega), EF_out (by omega), E12]
  have V1 : XF A B 3 1 = cM (B 1) (cT (cO (A 1 0) (A 0 0)) (B 0)) := by rw [XF_out (by omega), XF_out (by omega), Y11]
  have U22 : EF A 3 2 2 = cM (cM (A 2 2) (cT (cO (A 2 0) (A 0 0)) (A 0 2))) (cT (cO (cM (A 2 1) (cT (cO (A 2 0) (A 0 0)) (A 0 1))) (cM (A 1 1) (cT (cO (A 1 0) (A 0 0)) (A 0 1)))) (cM (A 1 2) (cT (cO (A 1 0) (A 0 0)) (A 0 2)))) := by rw [EF_out (by omega), H22]
  have V2 : XF A B 3 2 = cM (cM (B 2) (cT (cO (A 2 0) (A 0 0)) (B 0))) (cT (cO (cM (A 2 1) (cT (cO (A 2 0) (A 0 0)) (A 0 1))) (cM (A 1 1) (cT (cO (A 1 0) (A 0 0)) (A 0 1)))) (cM (B 1) (cT (cO (A 1 0) (A 0 0)) (B 0)))) := by rw [XF_out (by omega), Y22]
  have S20 : BS (EF A 3) (BF 3 (EF A 3) (XF A B 3) 0) 2 0 = cM (cM (B 2) (cT (cO (A 2 0) (A 0 0)) (B 0))) (cT (cO (cM (A 2 1) (cT (cO (A 2 0) (A 0 0)) (A 0 1))) (cM (A 1 1) (cT (cO (A 1 0) (A 0 0)) (A 0 1)))) (cM (B 1) (cT (cO (A 1 0) (A 0 0)) (B 0)))) := by rw [BS_zero, BF_zero, V2]
  have X2_1 : BF 3 (EF A 3) (XF A B 3) 1 2 = cO (cM (cM (B 2) (cT (cO (A 2 0) (A 0 0)) (B 0))) (cT (cO (cM (A 2 1) (cT (cO (A 2 0) (A 0 0)) (A 0 1))) (cM (A 1 1) (cT (cO (A 1 0) (A 0 0)) (A 0 1)))) (cM (B 1) (cT (cO (A 1 0) (A 0 0)) (B 0))))) (cM (cM (A 2 2) (cT (cO (A 2 0) (A 0 0)) (A 0 2))) (cT (cO (cM (A 2 1) (cT (cO (A 2 0) (A 0 0)) (A 0 1))) (cM (A 1 1) (cT (cO (A 1 0) (A 0 0)) (A 0 1)))) (cM (A 1 2) (cT (cO (A 1 0) (A 0 0)) (A 0 2))))) := by rw [BF_here (by decide), S20, U22]
  have X2_2 : BF 3 (EF A 3) (XF A B 3) 2 2 = cO (cM (cM (B 2) (cT (cO (A 2 0) (A 0 0)) (B 0))) (cT (cO (cM (A 2 1) (cT (cO (A 2 0) (A 0 0)) (A 0 1))) (cM (A 1 1) (cT (cO (A 1 0) (A 0 0)) (A 0 1)))) (cM (B 1) (cT (cO (A 1 0) (A 0 0)) (B 0))))) (cM (cM (A 2 2) (cT (cO (A 2 0) (A 0 0)) (A 0 2))) (cT (cO (cM (A 2 1) (cT (cO (A 2 0) (A 0 0)) (A 0 1))) (cM (A 1 1) (cT (cO (A 1 0) (A 0 0)) (A 0 1)))) (cM (A 1 2) (cT (cO (A 1 0) (A 0 0)) (A 0 2))))) := by rw [BF_else (by decide), X2_1]
  have X2_3 : BF 3 (EF A 3) (XF A B 3) 3 2 = cO (cM (cM (B 2) (cT (cO (A 2 0) (A 0 0)) (B 0))) (cT (cO (cM (A 2 1) (cT (cO (A 2 0) (A 0 0)) (A 0 1))) (cM (A 1 1) (cT (cO (A 1 0) (A 0 0)) (A 0 1)))) (cM (B 1) (cT (cO (A 1 0) (A 0 0)) (B 0))))) (cM (cM (A 2 2) (cT (cO (A 2 0) (A 0 0)) (A 0 2))) (cT (cO (cM (A 2 1) (cT (cO (A 2 0) (A 0 0)) (A 0 1))) (cM (A 1 1) (cT (cO (A 1 0) (A 0 0)) (A 0 1)))) (cM (A 1 2) (cT (cO (A 1 0) (A 0 0)) (A 0 2))))) := by rw [BF_else (by decide), X2_2]
  have S10 : BS (EF A 3) (BF 3 (EF A 3) (XF A B 3) 1) 1 0 = cM (B 1) (cT (cO (A 1 0) (A 0 0)) (B 0)) := by rw [BS_zero, BF_else (by decide), BF_zero, V1]
  have S11 : BS (EF A 3) (BF 3 (EF A 3) (XF A B 3) 1) 1 1 = cM (cM (B 1) (cT (cO (A 1 0) (A 0 0)) (B 0))) (cT (cM (A 1 2) (cT (cO (A 1 0) (A 0 0)) (A 0 2))) (cO (cM (cM (B 2) (cT (cO (A 2 0) (A 0 0)) (B 0))) (cT (cO (cM (A 2 1) (cT (cO (A 2 0) (A 0 0)) (A 0 1))) (cM (A 1 1) (cT (cO (A 1 0) (A 0 0)) (A 0 1)))) (cM (B 1) (cT (cO (A 1 0) (A 0 0)) (B 0))))) (cM (cM (A 2 2) (cT (cO (A 2 0) (A 0 0)) (A 0 2))) (cT (cO (cM (A 2 1) (cT (cO (A 2 0) (A 0 0)) (A 0 1))) (cM (A 1 1) (cT (cO (A 1 0) (A 0 0)) (A 0 1)))) (cM (A 1 2) (cT (cO (A 1 0) (A 0 0)) (A 0 2))))))) := by rw [BS_succ, S10, U12, X2_1]
  have X1_2 : BF 3 (EF A 3) (XF A B 3) 2 1 = cO (cM (cM (B 1) (cT (cO (A 1 0) (A 0 0)) (B 0))) (cT (cM (A 1 2) (cT (cO (A 1 0) (A 0 0)) (A 0 2))) (cO (cM (cM (B 2) (cT (cO (A 2 0) (A 0 0)) (B 0))) (cT (cO (cM (A 2 1) (cT (cO (A 2 0) (A 0 0)) (A 0 1))) (cM (A 1 1) (cT (cO (A 1 0) (A 0 0)) (A 0 1)))) (cM (B 1) (cT (cO (A 1 0) (A 0 0)) (B 0))))) (cM (cM (A 2 2) (cT (cO (A 2 0) (A 0 0)) (A 0 2))) (cT (cO (cM (A 2 1) (cT (cO (A 2 0) (A 0 0)) (A 0 1))) (cM (A 1 1) (cT (cO (A 1 0) (A 0 0)) (A 0 1)))) (cM (A 1 2) (cT (cO (A 1 0) (A 0 0)) (A 0 2)))))))) (cM (A 1 1) (cT (cO (A 1 0) (A 0 0)) (A 0 1))) := by rw [BF_here (by decide), S11, U11]
  have X1_3 : BF 3 (EF A 3) (XF A B 3) 3 1 = cO (cM (cM (B 1) (cT (cO (A 1 0) (A 0 0)) (B 0))) (cT (cM (A 1 2) (cT (cO (A 1 0) (A 0 0)) (A 0 2))) (cO (cM (cM (B 2) (cT (cO (A 2 0) (A 0 0)) (B 0))) (cT (cO (cM (A 2 1) (cT (cO (A 2 0) (A 0 0)) (A 0 1))) (cM (A 1 1) (cT (cO (A 1 0) (A 0 0)) (A 0 1)))) (cM (B 1) (cT (cO (A 1 0) (A 0 0)) (B 0))))) (cM (cM (A 2 2) (cT (cO (A 2 0) (A 0 0)) (A 0 2))) (cT (cO (cM (A 2 1) (cT (cO (A 2 0) (A 0 0)) (A 0 1))) (cM (A 1 1) (cT (cO (A 1 0) (A 0 0)) (A 0 1)))) (cM (A 1 2) (cT (cO (A 1 0) (A 0 0)) (A 0 2)))))))) (cM (A 1 1) (cT (cO (A 1 0) (A 0 0)) (A 0 1))) := by rw [BF_else (by decide), X1_2]
  have S00 : BS (EF A 3) (BF 3 (EF A 3) (XF A B 3) 2) 0 0 = B 0 := by rw [BS_zero, BF_else (by decide), BF_else (by decide), BF_zero, V0]
  have S01 : BS (EF A 3) (BF 3 (EF A 3) (XF A B 3) 2) 0 1 = cM (B 0) (cT (A 0 1) (cO (cM (cM (B 1) (cT (cO (A 1 0) (A 0 0)) (B 0))) (cT (cM (A 1 2) (cT (cO (A 1 0) (A 0 0)) (A 0 2))) (cO (cM (cM (B 2) (cT (cO (A 2 0) (A 0 0)) (B 0))) (cT (cO (cM (A 2 1) (cT (cO (A 2 0) (A 0 0)) (A 0 1))) (cM (A 1 1) (cT (cO (A 1 0) (A 0 0)) (A 0 1)))) (cM (B 1) (cT (cO (A 1 0) (A 0 0)) (B 0))))) (cM (cM (A 2 2) (cT (cO (A 2 0) (A 0 0)) (A 0 2))) (cT (cO (cM (A 2 1) (cT (cO (A 2 0) (A 0 0)) (A 0 1))) (cM (A 1 1) (cT (cO (A 1 0) (A 0 0)) (A 0 1)))) (cM (A 1 2) (cT (cO (A 1 0) (A 0 0)) (A 0 2)))))))) (cM (A 1 1) (cT (cO (A 1 0) (A 0 0)) (A 0 1))))) := by rw [BS_succ, S00, U0, X1_2]
  have S02 : BS (EF A 3) (BF 3 (EF A 3) (XF A B 3) 2) 0 2 = cM (cM (B 0) (cT (A 0 1) (cO (cM (cM (B 1) (cT (cO (A 1 0) (A 0 0)) (B 0))) (cT (cM (A 1 2) (cT (cO (A 1 0) (A 0 0)) (A 0 2))) (cO (cM (cM (B 2) (cT (cO (A 2 0) (A 0 0)) (B 0))) (cT (cO (cM (A 2 1) (cT (cO (A 2 0) (A 0 0)) (A 0 1))) (cM (A 1 1) (cT (cO (A 1 0) (A 0 0)) (A 0 1)))) (cM (B 1) (cT (cO (A 1 0) (A 0 0)) (B 0))))) (cM (cM (A 2 2) (cT (cO (A 2 0) (A 0 0)) (A 0 2))) (cT (cO (cM (A 2 1) (cT (cO (A 2 0) (A 0 0)) (A 0 1))) (cM (A 1 1) (cT (cO (A 1 0) (A 0 0)) (A 0 1)))) (cM (A 1 2) (cT (cO (A 1 0) (A 0 0)) (A 0 2)))))))) (cM (A 1 1) (cT (cO (A 1 0) (A 0 0)) (A 0 1)))))) (cT (A 0 2) (cO (cM (cM (B 2) (cT (cO (A 2 0) (A 0 0)) (B 0))) (cT (cO (cM (A 2 1) (cT (cO (A 2 0) (A 0 0)) (A 0 1))) (cM (A 1 1) (cT (cO (A 1 0) (A 0 0)) (A 0 1)))) (cM (B 1) (cT (cO (A 1 0) (A 0 0)) (B 0))))) (cM (cM (A 2 2) (cT (cO (A 2 0) (A 0 0)) (A 0 2))) (cT (cO (cM (A 2 1) (cT (cO (A 2 0) (A 0 0)) (A 0 1))) (cM (A 1 1) (cT (cO (A 1 0) (A 0 0)) (A 0 1)))) (cM (A 1 2) (cT (cO (A 1 0) (A 0 0)) (A 0 2))))))) := by rw [BS_succ, S01, U0, X2_2]
  have X0_3 : BF 3 (EF A 3) (XF A B 3) 3 0 = cO (cM (cM (B 0) (cT (A 0 1) (cO (cM (cM (B 1) (cT (cO (A 1 0) (A 0 0)) (B 0))) (cT (cM (A 1 2) (cT (cO (A 1 0) (A 0 0)) (A 0 2))) (cO (cM (cM (B 2) (cT (cO (A 2 0) (A 0 0)) (B 0))) (cT (cO (cM (A 2 1) (cT (cO (A 2 0) (A 0 0)) (A 0 1))) (cM (A 1 1) (cT (cO (A 1 0) (A 0 0)) (A 0 1)))) (cM (B 1) (cT (cO (A 1 0) (A 0 0)) (B 0))))) (cM (cM (A 2 2) (cT (cO (A 2 0) (A 0 0)) (A 0 2))) (cT (cO (cM (A 2 1) (cT (cO (A 2 0) (A 0 0)) (A 0 1))) (cM (A 1 1) (cT (cO (A 1 0) (A 0 0)) (A 0 1)))) (cM (A 1 2) (cT (cO (A 1 0) (A 0 0)) (A 0 2)))))))) (cM (A 1 1) (cT (cO (A 1 0) (A 0 0)) (A 0 1)))))) (cT (A 0 2) (cO (cM (cM (B 2) (cT (cO (A 2 0) (A 0 0)) (B 0))) (cT (cO (cM (A 2 1) (cT (cO (A 2 0) (A 0 0)) (A 0 1))) (cM (A 1 1) (cT (cO (A 1 0) (A 0 0)) (A 0 1)))) (cM (B 1) (cT (cO (A 1 0) (A 0 0)) (B 0))))) (cM (cM (A 2 2) (cT (cO (A 2 0) (A 0 0)) (A 0 2))) (cT (cO (cM (A 2 1) (cT (cO (A 2 0) (A 0 0)) (A 0 1))) (cM (A 1 1) (cT (cO (A 1 0) (A 0 0)) (A 0 1)))) (cM (A 1 2) (cT (cO (A 1 0) (A 0 0)) (A 0 2)))))))) (A 0 0) := by rw [BF_here (by decide), S02, U0]
  refine ⟨⟨?_, ?_, ?_, ?_, ?_, ?_, ?_, ?_, ?_⟩, v_x0, v_x1, v_x2, by rw [X0_3]; exact c_x0, r_x0, by rw [X1_3]; exact c_x1, r_x1, by rw [X2_3]; exact c_x2, r_x2, ?_⟩
  · intro k r h0 h1
    rcases (by omega : (k = 0 ∧ r = 0) ∨ (k = 0 ∧ r = 1) ∨ (k = 0 ∧ r = 2) ∨ (k = 1 ∧ r = 1) ∨ (k = 1 ∧ r = 2) ∨ (k = 2 ∧ r = 2)) with ⟨rfl, rfl⟩ | ⟨rfl, rfl⟩ | ⟨rfl, rfl⟩ | ⟨rfl, rfl⟩ | ⟨rfl, rfl⟩ | ⟨rfl, rfl⟩
    · rw [E0 0 0]; exact f_d0
    · rw [E0 1 0]; exact f_o01
    · rw [E0 2 0]; exact f_o02
    · rw [E11]; exact f_d1
    · rw [E21]; exact f_o12
    · rw [H22]; exact f_d2
  · intro k r h0 h1
    rcases (by omega : (k = 0 ∧ r = 1) ∨ (k = 0 ∧ r = 2) ∨ (k = 1 ∧ r = 2)) with ⟨rfl, rfl⟩ | ⟨rfl, rfl⟩ | ⟨rfl, rfl⟩
    · rw [E0 1 0, E0 0 0]; exact qv_ngt q_o01 q_d0 (by grind)
    · rw [E0 2 0, E0 0 0]; exact qv_ngt q_o02 q_d0 (by grind)
    · rw [E21, E11]; exact qv_ngt q_o12 q_d1 (by grind)
  · intro k h0
    rcases (by omega : (k = 0) ∨ (k = 1) ∨ (k = 2)) with ⟨rfl⟩ | ⟨rfl⟩ | ⟨rfl⟩
    · rw [E0 0 0]; exact qv_self q_d0
    · rw [E11]; exact qv_self q_d1
    · rw [H22]; exact qv_self q_d2
  · intro k h0
    rcases (by omega : (k = 0) ∨ (k = 1) ∨ (k = 2)) with ⟨rfl⟩ | ⟨rfl⟩ | ⟨rfl⟩
    · rw [E0 0 0]; exact qv_gt q_d0 qv_zero (by grind)
    · rw [E11]; exact qv_gt q_d1 qv_zero (by grind)
    · rw [H22]; exact qv_gt q_d2 qv_zero (by grind)
  · intro k r h0 h1
    rcases (by omega : (k = 0 ∧ r = 1) ∨ (k = 0 ∧ r = 2) ∨ (k = 1 ∧ r = 2)) with ⟨rfl, rfl⟩ | ⟨rfl, rfl⟩ | ⟨rfl, rfl⟩
    · rw [E0 1 0, E0 0 0]; exact t_f1
    · rw [E0 2 0, E0 0 0]; exact t_f2
    · rw [E21, E11]; exact t_g
  · intro k r c h0 h1 h2 h3
    rcases (by omega : (k = 0 ∧ r = 1 ∧ c = 1) ∨ (k = 0 ∧ r = 1 ∧ c = 2) ∨ (k = 0 ∧ r = 2 ∧ c = 1) ∨ (k = 0 ∧ r = 2 ∧ c = 2) ∨ (k = 1 ∧ r = 2 ∧ c = 2)) with ⟨rfl, rfl, rfl⟩ | ⟨rfl, rfl, rfl⟩ | ⟨rfl, rfl, rfl⟩ | ⟨rfl, rfl, rfl⟩ | ⟨rfl, rfl, rfl⟩
    · rw [E0 1 0, E0 0 0, E0 0 1]; exact t_p11
    · rw [E0 1 0, E0 0 0, E0 0 2]; exact t_p12
    · rw [E0 2 0, E0 0 0, E0 0 1]; exact t_p21
    · rw [E0 2 0, E0 0 0, E0 0 2]; exact t_p22
    · rw [E21, E11, E12]; exact t_gp
  · intro k r h0 h1
    rcases (by omega : (k = 0 ∧ r = 1) ∨ (k = 0 ∧ r = 2) ∨ (k = 1 ∧ r = 2)) with ⟨rfl, rfl⟩ | ⟨rfl, rfl⟩ | ⟨rfl, rfl⟩
    · rw [E0 1 0, E0 0 0, Y0]; exact t_q1
    · rw [E0 2 0, E0 0 0, Y0]; exact t_q2
    · rw [E21, E11, Y11]; exact t_gy
  · intro t d e h0 h1
    rcases (by omega : (t = 0 ∧ d = 2 ∧ e = 0) ∨ (t = 0 ∧ d = 2 ∧ e = 1) ∨ (t = 1 ∧ d = 1 ∧ e = 0)) with ⟨rfl, rfl, rfl⟩ | ⟨rfl, rfl, rfl⟩ | ⟨rfl, rfl, rfl⟩
    · show tOk (EF A 3 0 1) (BF 3 (EF A 3) (XF A B 3) 2 1); rw [U0, X1_2]; exact t_t01
    · show tOk (EF A 3 0 2) (BF 3 (EF A 3) (XF A B 3) 2 2); rw [U0, X2_2]; exact t_t02
    · show tOk (EF A 3 1 2) (BF 3 (EF A 3) (XF A B 3) 1 2); rw [U12, X2_1]; exact t_t12
  · intro t d h0
    rcases (by omega : (t = 0 ∧ d = 2) ∨ (t = 1 ∧ d = 1) ∨ (t = 2 ∧ d = 0)) with ⟨rfl, rfl⟩ | ⟨rfl, rfl⟩ | ⟨rfl, rfl⟩
    · rw [S02, U0]; exact t_x0
    · rw [S11, U11]; exact t_x1
    · rw [S20, U22]; exact t_x2
  intro m hm m0 m1 m2
  have z0 : Rg (0 : Rat) 0 := ⟨by decide +kernel, by decide +kernel⟩
  have zm : Rg (0 : Rat) m := ⟨by grind, hm⟩
  have r0 : Rg (a00 * v_x0 + a01 * v_x1 + a02 * v_x2 - b0) (400 / 16000000 * S) := by
    have h := (((e_x0.add e_v0).sub e_t01).add e_w0).sub e_t02
    obtain ⟨u1, u2⟩ := h
    exact ⟨by grind, by grind⟩
  have t1 : Rg (v_e11 * v_x1 + v_e12 * v_x2 - v_y1) (314 / 16000000 * S) := by
    have h := (e_x1.add e_w1).sub e_t12
    obtain ⟨u1, u2⟩ := h
    exact ⟨by grind, by grind⟩
  have t2 : Rg (v_h * v_x2 + 0 * 0 - v_y2) (238 / 16000000 * S) := by
    obtain ⟨u1, u2⟩ := e_x2
    exact ⟨by grind, by grind⟩
  have h11 : Rg (v_e11 - (a11 - v_f1 * a01)) (9 / 16000000) := by
    have h := e_e11.sub e_p11
    obtain ⟨u1, u2⟩ := h
    exact ⟨by grind, by grind⟩
  have h12 : Rg (v_e12 - (a12 - v_f1 * a02)) (3 / 16000000) := by
    have h := e_e12.sub e_p12
    obtain ⟨u1, u2⟩ := h
    exact ⟨by grind, by grind⟩
  have h21 : Rg (v_e21 - (a21 - v_f2 * a01)) (3 / 16000000) := by
    have h := e_e21.sub e_p21
    obtain ⟨u1, u2⟩ := h
    exact ⟨by grind, by grind⟩
  have h22 : Rg (v_e22 - (a22 - v_f2 * a02)) (9 / 16000000) := by
    have h := e_e22.sub e_p22
    obtain ⟨u1, u2⟩ := h
    exact ⟨by grind, by grind⟩
  have hh : Rg (v_h - (v_e22 - v_g * v_e12)) (9 / 16000000) := by
    have h := e_h.sub e_gp
    obtain ⟨u1, u2⟩ := h
    exact ⟨by grind, by grind⟩
  have hz1 : Rg (v_y1 - (b1 - v_f1 * b0)) (40 / 16000000 * S) := by
    have h := e_y1.sub e_q1
    obtain ⟨u1, u2⟩ := h
    exact ⟨by grind, by grind⟩
  have hz2 : Rg (v_z2 - (b2 - v_f2 * b0)) (40 / 16000000 * S) := by
    have h := e_z2.sub e_q2
    obtain ⟨u1, u2⟩ := h
    exact ⟨by grind, by grind⟩
  have hy2 : Rg (v_y2 - (v_z2 - v_g * v_y1)) (48 / 16000000 * S) := by
    have h := e_y2.sub e_gy
    obtain ⟨u1, u2⟩ := h
    exact ⟨by grind, by grind⟩
  have k1 := elim_row r0 r_f1 e_f1 h11 h12 hz1 t1 m0 m1 m2
  have t1z : Rg (v_e11 * v_x1 + v_e12 * v_x2 + 0 * 0 - v_y1) (314 / 16000000 * S) := by
    obtain ⟨u1, u2⟩ := t1
    exact ⟨by grind, by grind⟩
  have k2 := elim_row (c2 := 0) (e2 := 0) (E2 := 0) t1z r_g e_g hh (by rw [Rat.mul_zero]; exact ⟨by decide +kernel, by decide +kernel⟩) hy2 t2 m1 m2 zm
  have t2z : Rg (v_e21 * v_x1 + v_e22 * v_x2 - v_z2) ((602 / 1000) * (314 / 16000000 * S) + 238 / 16000000 * S + 48 / 16000000 * S + (1 / 16000000 * (6783 / 1000) + 9 / 16000000 + 0) * m) := by
    obtain ⟨u1, u2⟩ := k2
    exact ⟨by grind, by grind⟩
  have k3 := elim_row r0 r_f2 e_f2 h21 h22 hz2 t2z m0 m1 m2
  refine ⟨Rg.mono r0 (by grind), ?_, ?_⟩
  · obtain ⟨u1, u2⟩ := k1
    exact ⟨by grind, by grind⟩
  · obtain ⟨u1, u2⟩ := k3
    exact ⟨by grind, by grind⟩

end Go.Proofs.Ytpoigbpaeniikaa


namespace Go.Proofs.Ytpoigbpaeniikaa
open Go.RowKit

theorem rsq (x : Rat) : 0 ≤ x * x := by
  rcases (Rat.le_total : (0 : Rat) ≤ x ∨ x ≤ 0) with h | h
  · exact Rat.mul_nonneg h h
  · have := Rat.mul_nonneg (show 0 ≤ -x by grind) (show 0 ≤ -x by grind)
    grind
/-- The row with the greatest difference. -/
theorem dom_row {l t p q x y z r i M : Rat} (hl : 2 ≤ l) (ht0 : 0 ≤ t) (ht : t ≤ 1) (hp : Rg p (3 / 4)) (hq : Rg q (3 / 4)) (hr : Rg r (1 / 100)) (hi : Rg i 2) (hM : 0 ≤ M) (hy : Rg y M) (hz : Rg z M) (hx : x = M ∨ x = -M) (he : (l + t) * x + p * y + q * z = r - t * i) : M ≤ 27 / 20 := by
  rcases (by grind : M ≤ 27 / 20 ∨ 27 / 20 ≤ M) with h | h
  · exact h
  · obtain ⟨a1, a2⟩ := rmul hp hy
    obtain ⟨b1, b2⟩ := rmul hq hz
    obtain ⟨c1, c2⟩ := hr
    obtain ⟨d1, d2⟩ := hi
    have e1 := Rat.mul_nonneg ht0 (show 0 ≤ 2 - i by grind)
    have e2 := Rat.mul_nonneg ht0 (show 0 ≤ 2 + i by grind)
    have f1 := Rat.mul_nonneg (show 0 ≤ l - 2 by grind) hM
    have f2 := Rat.mul_nonneg ht0 (show 0 ≤ M - 27 / 20 by grind)
    rcases hx with hx | hx
    · subst hx; grind
    · subst hx; grind
theorem Rg.abs {x : Rat} : ∃ M, 0 ≤ M ∧ (x = M ∨ x = -M) ∧ ∀ m, 0 ≤ m → (Rg x m ↔ M ≤ m) := by
  rcases (Rat.le_total : (0 : Rat) ≤ x ∨ x ≤ 0) with h | h
  · exact ⟨x, h, .inl rfl, fun m hm => ⟨fun g => g.2, fun g => ⟨by grind, g⟩⟩⟩
  · exact ⟨-x, by grind, .inr (by grind), fun m hm => ⟨fun g => by have := g.1; grind, fun g => ⟨by grind, by grind⟩⟩⟩
section
variable {l00 l01 l02 l11 l12 l22 t0 t1 t2 i0 i1 i2 x0 x1 x2 r0 r1 r2 : Rat}
theorem dmax (h0 : 2 ≤ l00) (h1 : 2 ≤ l11) (h2 : 2 ≤ l22) (p01 : Rg l01 (3 / 4)) (p02 : Rg l02 (3 / 4)) (p12 : Rg l12 (3 / 4)) (a0 : 0 ≤ t0) (b0 : t0 ≤ 1) (a1 : 0 ≤ t1) (b1 : t1 ≤ 1) (a2 : 0 ≤ t2) (b2 : t2 ≤ 1)
    (j0 : Rg i0 2) (j1 : Rg i1 2) (j2 : Rg i2 2) (s0 : Rg r0 (1 / 100)) (s1 : Rg r1 (1 / 100)) (s2 : Rg r2 (1 / 100))
    (e0 : (l00 + t0) * x0 + l01 * x1 + l02 * x2 = l00 * i0 + l01 * i1 + l02 * i2 + r0) (e1 : l01 * x0 + (l11 + t1) * x1 + l12 * x2 = l01 * i0 + l11 * i1 + l12 * i2 + r1) (e2 : l02 * x0 + l12 * x1 + (l22 + t2) * x2 = l02 * i0 + l12 * i1 + l22 * i2 + r2) :
    Rg x0 (67 / 20) ∧ Rg x1 (67 / 20) ∧ Rg x2 (67 / 20) := by
  obtain ⟨M0, m0, n0, k0⟩ := Rg.abs (x := x0 - i0)
  obtain ⟨M1, m1, n1, k1⟩ := Rg.abs (x := x1 - i1)
  obtain ⟨M2, m2, n2, k2⟩ := Rg.abs (x := x2 - i2)
  have key : M0 ≤ 27 / 20 ∧ M1 ≤ 27 / 20 ∧ M2 ≤ 27 / 20 := by
    rcases (by grind : (M1 ≤ M0 ∧ M2 ≤ M0) ∨ (M0 ≤ M1 ∧ M2 ≤ M1) ∨ (M0 ≤ M2 ∧ M1 ≤ M2)) with ⟨g1, g2⟩ | ⟨g1, g2⟩ | ⟨g1, g2⟩
    · have := dom_row h0 a0 b0 p01 p02 s0 j0 m0 ((k1 _ m0).2 g1) ((k2 _ m0).2 g2) n0 (by clear k0 k1 k2; grind)
      exact ⟨this, by grind, by grind⟩
    · have := dom_row h1 a1 b1 p01 p12 s1 j1 m1 ((k0 _ m1).2 g1) ((k2 _ m1).2 g2) n1 (by clear k0 k1 k2; grind)
      exact ⟨by grind, this, by grind⟩
    · have := dom_row h2 a2 b2 p02 p12 s2 j2 m2 ((k0 _ m2).2 g1) ((k1 _ m2).2 g2) n2 (by clear k0 k1 k2; grind)
      exact ⟨by grind, by grind, this⟩
  have q : (0 : Rat) ≤ 27 / 20 := by decide +kernel
  obtain ⟨u0, v0⟩ := (k0 _ q).2 key.1
  obtain ⟨u1, v1⟩ := (k1 _ q).2 key.2.1
  obtain ⟨u2, v2⟩ := (k2 _ q).2 key.2.2
  clear k0 k1 k2
  obtain ⟨c0, d0⟩ := j0
  obtain ⟨c1, d1⟩ := j1
  obtain ⟨c2, d2⟩ := j2
  exact ⟨⟨by grind, by grind⟩, ⟨by grind, by grind⟩, ⟨by grind, by grind⟩⟩
def en3 (l00 l01 l02 l11 l12 l22 x0 x1 x2 : Rat) : Rat := (l00 * x0 * x0 + l11 * x1 * x1 + l22 * x2 * x2) / 2 + l01 * x0 * x1 + l02 * x0 * x2 + l12 * x1 * x2
theorem pair_pos {l x y : Rat} (h : Rg l (3 / 4)) : 0 ≤ (3 / 4) * (x * x + y * y) + 2 * (l * x * y) := by
  have h1 := Rat.mul_nonneg (show 0 ≤ 3 / 4 - l by have := h.2; grind) (rsq (x - y))
  have h2 := Rat.mul_nonneg (show 0 ≤ 3 / 4 + l by have := h.1; grind) (rsq (x + y))
  grind
theorem en3_pos (h0 : 2 ≤ l00) (h1 : 2 ≤ l11) (h2 : 2 ≤ l22) (p01 : Rg l01 (3 / 4)) (p02 : Rg l02 (3 / 4)) (p12 : Rg l12 (3 / 4)) : 0 ≤ en3 l00 l01 l02 l11 l12 l22 x0 x1 x2 := by
  have a1 := pair_pos (x := x0) (y := x1) p01
  have a2 := pair_pos (x := x0) (y := x2) p02
  have a3 := pair_pos (x := x1) (y := x2) p12
  have b0 := Rat.mul_nonneg (show 0 ≤ l00 - 2 by grind) (rsq x0)
  have b1 := Rat.mul_nonneg (show 0 ≤ l11 - 2 by grind) (rsq x1)
  have b2 := Rat.mul_nonneg (show 0 ≤ l22 - 2 by grind) (rsq x2)
  have c0 := rsq x0
  have c1 := rsq x1
  have c2 := rsq x2
  unfold en3
  grind
theorem en3_le (h0 : 2 ≤ l00) (h1 : 2 ≤ l11) (h2 : 2 ≤ l22) (p01 : Rg l01 (3 / 4)) (p02 : Rg l02 (3 / 4)) (p12 : Rg l12 (3 / 4)) (a0 : 0 ≤ t0) (a1 : 0 ≤ t1) (a2 : 0 ≤ t2)
    (e0 : (l00 + t0) * x0 + l01 * x1 + l02 * x2 = l00 * i0 + l01 * i1 + l02 * i2 + r0) (e1 : l01 * x0 + (l11 + t1) * x1 + l12 * x2 = l01 * i0 + l11 * i1 + l12 * i2 + r1) (e2 : l02 * x0 + l12 * x1 + (l22 + t2) * x2 = l02 * i0 + l12 * i1 + l22 * i2 + r2) :
    en3 l00 l01 l02 l11 l12 l22 x0 x1 x2 ≤ en3 l00 l01 l02 l11 l12 l22 i0 i1 i2 + (x0 * r0 + x1 * r1 + x2 * r2) := by
  have d := en3_pos (x0 := x0 - i0) (x1 := x1 - i1) (x2 := x2 - i2) h0 h1 h2 p01 p02 p12
  have s0 := Rat.mul_nonneg a0 (rsq x0)
  have s1 := Rat.mul_nonneg a1 (rsq x1)
  have s2 := Rat.mul_nonneg a2 (rsq x2)
  have g0 : x0 * ((l00 + t0) * x0 + l01 * x1 + l02 * x2) = x0 * (l00 * i0 + l01 * i1 + l02 * i2 + r0) := by rw [e0]
  have g1 : x1 * (l01 * x0 + (l11 + t1) * x1 + l12 * x2) = x1 * (l01 * i0 + l11 * i1 + l12 * i2 + r1) := by rw [e1]
  have g2 : x2 * (l02 * x0 + l12 * x1 + (l22 + t2) * x2) = x2 * (l02 * i0 + l12 * i1 + l22 * i2 + r2) := by rw [e2]
  unfold en3 at *
  clear e0 e1 e2 h0 h1 h2 p01 p02 p12 a0 a1 a2
  grind
end
end Go.Proofs.Ytpoigbpaeniikaa


namespace Go.Proofs.Ytpoigbpaeniikaa
open Go.RowKit

attribute [local irreducible] D9 D7 UU WW W9
structure CD (n : Nat) (rs gs ls : List Nat) : Prop where
  hr : rs.length = n
  hg : gs.length = n
  hl : ls.length = n * n
  n1 : 1 ≤ n
  n3 : n ≤ 3
  rd : ∀ i, i < n → ∃ x : Nat, x < 8 ∧ dy .f32 (rs.getD i 0) (32 * (1 + (x : Int)))
  gd : ∀ i, i < n → ∃ x : Nat, x < 9 ∧ dy .f32 (gs.getD i 0) (64 * (x : Int))
  dd : ∀ i, i < n → ∃ x : Nat, x < 8 ∧ dy .f32 (ls.getD (i * n + i) 0) (64 * (4 + (x : Int)))
  od : ∀ i j, j < i → i < n → (∃ x : Nat, x < 7 ∧ dy .f32 (ls.getD (i * n + j) 0) (32 * ((x : Int) - 3))) ∧ ls.getD (j * n + i) 0 = ls.getD (i * n + j) 0
section
variable {x y : Nat} {v u : Int}
theorem fin_dyT (h : dy .f32 x v) : fin x = true := by
  have h2 := dy_sub h h (by rw [Int.sub_self]; decide)
  rw [Int.sub_self] at h2
  unfold fin
  show (FloatKind.f32.format.order _ 0 == some .eq) = true
  rw [dy_cmp h2 dy_z, compare_eq.2 rfl]; rfl
theorem dy_geq (h : dy .f32 x v) (g : dy .f32 y u) (hv : u ≤ v) : fcmp .geq .f32 x y = true := by
  show (FloatKind.f32.format.order x y == some .gt || FloatKind.f32.format.order x y == some .eq) = true
  rw [dy_cmp h g]
  rcases Int.lt_trichotomy v u with h | h | h
  · omega
  · rw [compare_eq.2 h]; rfl
  · rw [Int.compare_eq_gt.2 h]; rfl
theorem dy_gtrT (h : dy .f32 x v) (g : dy .f32 y u) (hv : u < v) : fcmp .gtr .f32 x y = true := by
  show (FloatKind.f32.format.order x y == some .gt) = true
  rw [dy_cmp h g, Int.compare_eq_gt.2 hv]; rfl
theorem dy_neqT (h : dy .f32 x v) : fcmp .neq .f32 x x = false := by
  show (!(FloatKind.f32.format.order x x == some .eq)) = false
  rw [dy_cmp h h, compare_eq.2 rfl]; rfl
theorem least_dyT (h : dy .f32 x v) (hv : 0 ≤ v) : least x = true := by
  unfold least
  rw [fin_dyT h, dy_geq h dy_z hv]; rfl
end
section
variable {n : Nat} {rs gs ls vs qs js : List Nat}
/-- Any entry. -/
theorem CD.en (h : CD n rs gs ls) {i j : Nat} (hi : i < n) (hj : j < n) : ∃ v : Int, dy .f32 (ls.getD (i * n + j) 0) v ∧ -96 ≤ v ∧ v ≤ 704 := by
  rcases Nat.lt_trichotomy i j with g | g | g
  · obtain ⟨⟨x, hx, d⟩, e⟩ := h.od j i g hj
    exact ⟨_, by rw [e]; exact d, by omega, by omega⟩
  · subst g
    obtain ⟨x, hx, d⟩ := h.dd i hi
    exact ⟨_, d, by omega, by omega⟩
  · obtain ⟨⟨x, hx, d⟩, e⟩ := h.od i j g hi
    exact ⟨_, d, by omega, by omega⟩
theorem CD.ok (h : CD n rs gs ls) : CirOk n rs gs ls := by
  refine ⟨h.hr, h.hg, h.hl, h.n1, Nat.le_trans h.n3 (by decide), all_getD.2 fun i hi => ?_, all_getD.2 fun i hi => ?_, all_getD.2 fun i hi => ?_, fun i hi => ?_, fun i j hj hi => ?_⟩
  · obtain ⟨x, hx, d⟩ := h.rd i (by have := h.hr; omega)
    exact least_dyT d (by omega)
  · obtain ⟨x, hx, d⟩ := h.gd i (by have := h.hg; omega)
    exact least_dyT d (by omega)
  · have hl := h.hl
    have hn := h.n1
    have e : i = i / n * n + i % n := by rw [Nat.mul_comm]; exact (Nat.div_add_mod i n).symm
    obtain ⟨v, d, _⟩ := h.en (i := i / n) (j := i % n) (Nat.div_lt_of_lt_mul (by omega)) (Nat.mod_lt _ (by omega))
    rw [← e] at d
    exact fin_dyT d
  · obtain ⟨x, hx, d⟩ := h.dd i hi
    exact dy_gtrT d dy_z (by omega)
  · obtain ⟨⟨x, hx, d⟩, e⟩ := h.od i j hj hi
    rw [e]
    exact dy_neqT d
theorem q128 {v lo hi : Int} (h1 : lo ≤ v) (h2 : v ≤ hi) : ((lo : Rat)) / 128 ≤ (v : Rat) / 128 ∧ (v : Rat) / 128 ≤ (hi : Rat) / 128 := by
  have g1 := Rat.intCast_le_intCast.2 h1
  have g2 := Rat.intCast_le_intCast.2 h2
  exact ⟨by grind, by grind⟩
theorem apx_z : apx 0 0 := by
  have := apx_dy (dy_z (k := .f32))
  rw [Int.zero_mul] at this
  exact this
/-- The equations' numbers: τ is 1 for a tick of a quarter, 2 for one of a half. -/
theorem CD.dg (h : CD n rs gs ls) {tk i : Nat} {τ : Int} (ht : dy .f32 tk (32 * τ)) (h1 : 0 ≤ τ) (h2 : τ ≤ 2) (hi : i < n) : ∃ l t : Int, 256 ≤ l ∧ l ≤ 704 ∧ 8 * τ ≤ t ∧ t ≤ 64 * τ ∧ dy .f32 (ls.getD (i * n + i) 0) l ∧ 2 * (l / 2) = l ∧ (∃ q, l = 64 * q) ∧ cq (mA n rs ls tk i i) (((l + t : Int) : Rat) / 128) := by
  obtain ⟨x, hx, d⟩ := h.dd i hi
  obtain ⟨y, hy, e⟩ := h.rd i hi
  have hm : dy .f32 (fop .mul .f32 tk (rs.getD i 0)) (8 * τ * (1 + (y : Int))) := by
    refine dy_mul ht e (by grind) ?_
    rcases (by omega : τ = 0 ∨ τ = 1 ∨ τ = 2) with rfl | rfl | rfl <;> omega
  have hb : 8 * τ ≤ 8 * τ * (1 + (y : Int)) ∧ 8 * τ * (1 + (y : Int)) ≤ 64 * τ := by
    rcases (by omega : τ = 0 ∨ τ = 1 ∨ τ = 2) with rfl | rfl | rfl <;> omega
  have ha := dy_add d hm (by omega)
  refine ⟨64 * (4 + (x : Int)), 8 * τ * (1 + (y : Int)), by omega, by omega, hb.1, hb.2, d, by omega, ⟨_, rfl⟩, ?_⟩
  rw [mA_at]
  exact ⟨qv_dy ha, apx_z⟩
theorem CD.of (h : CD n rs gs ls) {tk i j : Nat} (hj : j < i) (hi : i < n) : ∃ l : Int, -96 ≤ l ∧ l ≤ 96 ∧ dy .f32 (ls.getD (i * n + j) 0) l ∧ dy .f32 (ls.getD (j * n + i) 0) l ∧ (∃ q, l = 32 * q) ∧ cq (mA n rs ls tk i j) ((l : Rat) / 128) ∧ cq (mA n rs ls tk j i) ((l : Rat) / 128) := by
  obtain ⟨⟨x, hx, d⟩, e⟩ := h.od i j hj hi
  refine ⟨32 * ((x : Int) - 3), by omega, by omega, d, by rw [e]; exact d, ⟨_, rfl⟩, ?_, ?_⟩
  · rw [mA_off _ _ _ (by omega)]
    exact ⟨qv_dy d, apx_z⟩
  · rw [mA_off _ _ _ (by omega), e]
    exact ⟨qv_dy d, apx_z⟩
/-- All words of a list are numbers within a bound. -/
def Bd (n : Nat) (xs : List Nat) (S : Rat) : Prop := ∀ i, i < n → ∃ v, qv (xs.getD i 0) v ∧ Rg v S
theorem Bd.mono {S S' : Rat} {xs : List Nat} (h : Bd n xs S) (hs : S ≤ S') : Bd n xs S' := fun i hi => by
  obtain ⟨v, h1, h2⟩ := h i hi
  exact ⟨v, h1, h2.mono hs⟩
theorem CD.sIb (h : CD n rs gs ls) {s : Nat} {S : Rat} (hS : pw2 s S) (hs : s ≤ 50) (hj : Bd n js S) {i : Nat} (hi : i < n) : ∀ j, j ≤ n → ∃ v, qv (sI n ls js i j) v ∧ Rg v ((j : Rat) * (28 / 5) * S)
  | 0, _ => by
    refine ⟨0, by rw [sI_zero]; exact qv_zero, ?_⟩
    have : ((0 : Nat) : Rat) = 0 := rfl
    rw [this, Rat.zero_mul, Rat.zero_mul]
    exact ⟨by decide +kernel, by decide +kernel⟩
  | j + 1, hj2 => by
    obtain ⟨v, v1, v2⟩ := CD.sIb h hS hs hj hi j (by omega)
    obtain ⟨u, u1, u2⟩ := hj j (by omega)
    obtain ⟨l, l1, l2, l3⟩ := h.en hi (show j < n by omega)
    have hl := q128 (lo := -704) (by omega) l3
    have hS0 := pw2_nn hS
    have hm := rmul (a := (l : Rat) / 128) (A := 11 / 2) ⟨by have := hl.1; grind, by have := hl.2; grind⟩ u2
    obtain ⟨m1, m2⟩ := hm
    obtain ⟨p, p1, p2, p3⟩ := qv_mul (pw2_mul 3 (J := 8) rfl hS) (by omega) (qv_dy l1) u1 (by grind) (by grind)
    have hj3 : (j : Rat) ≤ 2 := by
      have : j ≤ 2 := by have := h.n3; omega
      have := Rat.intCast_le_intCast.2 (show (j : Int) ≤ 2 by omega)
      exact this
    have hj4 : 0 ≤ (j : Rat) := Rat.natCast_nonneg
    have hjS := Rat.mul_le_mul_of_nonneg_right hj3 hS0
    obtain ⟨w1, w2⟩ := v2
    obtain ⟨z, z1, z2, z3⟩ := qv_add (pw2_mul 5 (J := 32) rfl hS) (by omega) v1 p1 (by grind) (by grind)
    refine ⟨z, by rw [sI_succ]; exact z1, ?_⟩
    have : ((j + 1 : Nat) : Rat) = (j : Rat) + 1 := by rw [Rat.natCast_add]; rfl
    rw [this]
    exact ⟨by grind, by grind⟩
theorem nI_get {rs gs ls qs js vs : List Nat} {tk i : Nat} (hi : i < n) : (nI n rs gs ls qs js vs tk n).getD i 0 = (BF n (EF (mA n rs ls tk) n) (XF (mA n rs ls tk) (bV n gs ls qs js vs tk) n) n i).1 := by
  simp [nI, List.getD, hi, solC]
theorem nQ_get {rs gs ls qs js vs : List Nat} {tk i : Nat} (hi : i < n) : (nQ n rs gs ls qs js vs tk n).getD i 0 = fop .add .f32 (qs.getD i 0) (fop .mul .f32 tk ((nI n rs gs ls qs js vs tk n).getD i 0)) := by
  rw [nI_get hi]
  simp [nQ, List.getD, hi, solC]
/-- The right sides. -/
theorem CD.bWb (h : CD n rs gs ls) {s tk : Nat} {S : Rat} (hS : pw2 s S) (hs : s ≤ 50) (hS2 : 2 ≤ S) (ht : dy .f32 tk 32) (hv : Bd n vs 2) (hq : Bd n qs S) (hj : Bd n js S) {i : Nat} (hi : i < n) : ∃ v, cq (bV n gs ls qs js vs tk i) v ∧ Rg v (142 / 10 * (2 * S)) := by
  have hS0 := pw2_nn hS
  obtain ⟨a, a1, a2⟩ := h.sIb hS hs hj hi n (Nat.le_refl _)
  have hn : (n : Rat) ≤ 3 := Rat.intCast_le_intCast.2 (show (n : Int) ≤ 3 by have := h.n3; omega)
  have hnS := Rat.mul_le_mul_of_nonneg_right hn hS0
  obtain ⟨x, hx, g⟩ := h.gd i hi
  have hg := q128 (lo := 0) (v := 64 * (x : Int)) (hi := 512) (by omega) (by omega)
  obtain ⟨q, q1, q2⟩ := hq i hi
  obtain ⟨m1, m2⟩ := rmul (a := ((64 * (x : Int) : Int) : Rat) / 128) (A := 4) ⟨by have := hg.1; grind, by have := hg.2; grind⟩ q2
  obtain ⟨p, p1, p2, p3⟩ := qv_mul (pw2_mul 2 (J := 4) rfl hS) (by omega) (qv_dy g) q1 (by grind) (by grind)
  obtain ⟨c, c1, c2, c3⟩ := hv i hi
  obtain ⟨d, d1, d2, d3⟩ := qv_sub (pw2_mul 3 (J := 8) rfl hS) (by omega) c1 p1 (by grind) (by grind)
  have ht2 := qv_dy ht
  have e32 : ((32 : Int) : Rat) / 128 = 1 / 4 := by decide +kernel
  rw [e32] at ht2
  obtain ⟨e, e1, e2, e3⟩ := qv_mul (pw2_mul 1 (J := 2) rfl hS) (by omega) ht2 d1 (by grind) (by grind)
  obtain ⟨a2, a3⟩ := a2
  obtain ⟨b, b1, b2, b3⟩ := qv_add (pw2_mul 5 (J := 32) rfl hS) (by omega) a1 e1 (by grind) (by grind)
  refine ⟨b, ⟨b1, apx_z⟩, by grind, by grind⟩
end
end Go.Proofs.Ytpoigbpaeniikaa


namespace Go.Proofs.Ytpoigbpaeniikaa
open Go.RowKit

attribute [local irreducible] D9 D7 UU WW W9
set_option maxRecDepth 20000
set_option linter.unusedVariables false
theorem q_rg {v : Int} {B : Rat} (lo hi : Int) (h1 : lo ≤ v) (h2 : v ≤ hi) (g1 : -B ≤ (lo : Rat) / 128) (g2 : (hi : Rat) / 128 ≤ B) : Rg ((v : Rat) / 128) B := by
  obtain ⟨a, b⟩ := q128 h1 h2
  exact ⟨by grind, by grind⟩
theorem dg_lo {l t : Int} (h1 : 256 ≤ l) (h2 : 0 ≤ t) : 2 ≤ ((l + t : Int) : Rat) / 128 := by
  have := (q128 (v := l + t) (lo := 256) (hi := l + t) (by omega) (Int.le_refl _)).1
  have e : ((256 : Int) : Rat) / 128 = 2 := by decide +kernel
  rw [e] at this; exact this
theorem dg_hi {l t : Int} (h1 : l ≤ 704) (h2 : t ≤ 128) : ((l + t : Int) : Rat) / 128 ≤ 13 / 2 := by
  have := (q128 (v := l + t) (hi := 832) (lo := l + t) (Int.le_refl _) (by omega)).2
  have e : ((832 : Int) : Rat) / 128 = 13 / 2 := by decide +kernel
  rw [e] at this; exact this
theorem of_rg {l : Int} (h1 : -96 ≤ l) (h2 : l ≤ 96) : Rg ((l : Rat) / 128) (3 / 4) := q_rg (-96) 96 h1 h2 (by decide +kernel) (by decide +kernel)
/-- From solutions to the next currents and charges. -/
theorem next_bd {n s tk : Nat} {S : Rat} {rs gs ls qs js vs : List Nat} (hS : pw2 s S) (hs : s ≤ 50) (ht : dy .f32 tk 32) (hq : Bd n qs S)
    (hx : ∀ i, i < n → ∃ x, cq (BF n (EF (mA n rs ls tk) n) (XF (mA n rs ls tk) (bV n gs ls qs js vs tk) n) n i) x ∧ Rg x (287 / 10 * (2 * S))) : Bd n (nI n rs gs ls qs js vs tk n) (64 * S) ∧ Bd n (nQ n rs gs ls qs js vs tk n) (64 * S) := by
  have hS0 := pw2_nn hS
  have ht2 := qv_dy ht
  have e32 : ((32 : Int) : Rat) / 128 = 1 / 4 := by decide +kernel
  rw [e32] at ht2
  refine ⟨fun i hi => ?_, fun i hi => ?_⟩
  · obtain ⟨x, c, r⟩ := hx i hi
    rw [nI_get hi]
    exact ⟨x, c.1, r.mono (by grind)⟩
  · obtain ⟨x, c, r⟩ := hx i hi
    rw [nQ_get hi, nI_get hi]
    obtain ⟨q, q1, q2, q3⟩ := hq i hi
    obtain ⟨r1, r2⟩ := r
    obtain ⟨p, p1, p2, p3⟩ := qv_mul (pw2_mul 4 (J := 16) rfl hS) (by omega) ht2 c.1 (by grind) (by grind)
    obtain ⟨z, z1, z2, z3⟩ := qv_add (pw2_mul 4 (J := 16) rfl hS) (by omega) q1 p1 (by grind) (by grind)
    exact ⟨z, z1, by grind, by grind⟩
/-! ### the energy in single precision -/
def ap (x : Nat) (v E : Rat) : Prop := ∃ z, qv x z ∧ Rg (z - v) E
theorem p128 : pw2 7 128 := rfl
theorem p16 : pw2 4 16 := rfl
theorem p32 : pw2 5 32 := rfl
theorem ap_add {x y : Nat} {v w E F V W D : Rat} (hx : ap x v E) (hy : ap y w F) (hv : Rg v V) (hw : Rg w W) (h : V + W + E + F ≤ 128) (hD : E + F + 128 / 16777216 ≤ D) : ap (fop .add .f32 x y) (v + w) D := by
  obtain ⟨a, a1, a2, a3⟩ := hx
  obtain ⟨b, b1, b2, b3⟩ := hy
  obtain ⟨c2, c3⟩ := hv
  obtain ⟨d2, d3⟩ := hw
  obtain ⟨z, z1, z2, z3⟩ := qv_add p128 (by decide) a1 b1 (by grind) (by grind)
  exact ⟨z, z1, by grind, by grind⟩
theorem dy_half : dy .f32 1056964608 64 := dyb_is (by decide +kernel)
section
variable {n i j : Nat} {ls js : List Nat} {l : Int} {a b : Rat}
theorem eT_dg (hl : dy .f32 (ls.getD (i * n + j) 0) l) (h2 : 2 * (l / 2) = l) (h0 : -704 ≤ l) (h1 : l ≤ 704) (ha : qv (js.getD i 0) a) (hb : qv (js.getD j 0) b) (ra : Rg a (67 / 20)) (rb : Rg b (67 / 20)) :
    ap (eT n ls js i j) ((l : Rat) / 256 * a * b) (90 / 16777216) ∧ Rg ((l : Rat) / 256 * a * b) 31 := by
  have d1 := qv_dy (dy_mul dy_half hl (c := l / 2) (by omega) (by omega))
  have e1 : ((l / 2 : Int) : Rat) / 128 = (l : Rat) / 256 := by
    have := congrArg (fun z : Int => (z : Rat)) h2
    simp only [Rat.intCast_mul] at this
    have h3 : ((2 : Int) : Rat) = 2 := rfl
    rw [h3] at this
    grind
  rw [e1] at d1
  have rl : Rg ((l : Rat) / 256) (11 / 4) := by
    obtain ⟨g1, g2⟩ := q_rg (B := 11 / 2) (-704) 704 h0 h1 (by decide +kernel) (by decide +kernel)
    exact ⟨by grind, by grind⟩
  have m1 := rmul rl ra
  obtain ⟨u1, u2⟩ := id m1
  obtain ⟨p, p1, p2, p3⟩ := qv_mul p16 (by decide) d1 ha (by grind) (by grind)
  have m2 := rmul m1 rb
  obtain ⟨w1, w2⟩ := id m2
  have m3 := rmul (a := p - (l : Rat) / 256 * a) (A := 16 / 16777216) ⟨by grind, by grind⟩ rb
  obtain ⟨x1, x2⟩ := m3
  obtain ⟨q, q1, q2, q3⟩ := qv_mul p32 (by decide) p1 hb (by grind) (by grind)
  refine ⟨⟨q, by rw [eT_is]; exact q1, by grind, by grind⟩, by grind, by grind⟩
theorem eT_of (hl : dy .f32 (ls.getD (i * n + j) 0) l) (h2 : 2 * (l / 2) = l) (h0 : -96 ≤ l) (h1 : l ≤ 96) (ha : qv (js.getD i 0) a) (hb : qv (js.getD j 0) b) (ra : Rg a (67 / 20)) (rb : Rg b (67 / 20)) :
    ap (eT n ls js i j) ((l : Rat) / 256 * a * b) (16 / 16777216) ∧ Rg ((l : Rat) / 256 * a * b) (43 / 10) := by
  have d1 := qv_dy (dy_mul dy_half hl (c := l / 2) (by omega) (by omega))
  have e1 : ((l / 2 : Int) : Rat) / 128 = (l : Rat) / 256 := by
    have := congrArg (fun z : Int => (z : Rat)) h2
    simp only [Rat.intCast_mul] at this
    have h3 : ((2 : Int) : Rat) = 2 := rfl
    rw [h3] at this
    grind
  rw [e1] at d1
  have rl : Rg ((l : Rat) / 256) (3 / 8) := by
    obtain ⟨g1, g2⟩ := of_rg h0 h1
    exact ⟨by grind, by grind⟩
  have m1 := rmul rl ra
  obtain ⟨u1, u2⟩ := id m1
  obtain ⟨p, p1, p2, p3⟩ := qv_mul p1 (by decide) d1 ha (by grind) (by grind)
  have m2 := rmul m1 rb
  obtain ⟨w1, w2⟩ := id m2
  have m3 := rmul (a := p - (l : Rat) / 256 * a) (A := 2 / 16777216) ⟨by grind, by grind⟩ rb
  obtain ⟨x1, x2⟩ := m3
  obtain ⟨q, q1, q2, q3⟩ := qv_mul p8 (by decide) p1 hb (by grind) (by grind)
  refine ⟨⟨q, by rw [eT_is]; exact q1, by grind, by grind⟩, by grind, by grind⟩
theorem eG_t {g q : Nat} {c : Rat} (hg : g = 0) (hq : qv q c) (rc : Rg c 4) : ap (fop .mul .f32 (fop .mul .f32 (fop .mul .f32 1056964608 g) q) q) 0 (8 / 16777216) := by
  subst hg
  have d1 := qv_dy (dy_mul dy_half (dy_z (k := .f32)) (c := 0) (by decide) (by decide))
  have e0 : ((0 : Int) : Rat) / 128 = 0 := by decide +kernel
  rw [e0] at d1
  obtain ⟨p, p1, p2, p3⟩ := qv_mul p0 (by decide) d1 hq (by grind) (by grind)
  obtain ⟨x1, x2⟩ := rmul (a := p) (A := 1 / 16777216) ⟨by grind, by grind⟩ rc
  obtain ⟨q, q1, q2, q3⟩ := qv_mul p0 (by decide) p1 hq (by grind) (by grind)
  exact ⟨q, q1, by grind, by grind⟩
end
theorem rgz : Rg (0 : Rat) 0 := ⟨by decide +kernel, by decide +kernel⟩
theorem ap0 : ap 0 0 0 := ⟨0, qv_zero, by decide +kernel, by decide +kernel⟩
theorem qv_c1 : qv 981668463 (8589935 / 8589934592) := by
  refine ⟨8589935 * 2 ^ 116, ⟨by decide, by decide, by decide +kernel⟩, ?_⟩
  have e : ((2 : Int) ^ 116) * 8589934592 = 16777216 * UU := by rw [BB_is]; decide
  have e2 := congrArg (fun z : Int => (z : Rat)) e
  simp only [Rat.intCast_mul] at e2
  unfold WW
  rw [Rat.intCast_mul, Rat.intCast_mul, ← e2]
  generalize (((2 : Int) ^ 116 : Int) : Rat) = u
  have h1 : ((8589935 : Int) : Rat) = 8589935 := rfl
  have h2 : ((8589934592 : Int) : Rat) = 8589934592 := rfl
  rw [h1, h2]
  grind
theorem qv_c2 : qv 3129152111 (-8589935 / 8589934592) := by
  refine ⟨-8589935 * 2 ^ 116, ⟨by decide, by decide, by decide +kernel⟩, ?_⟩
  have e : ((2 : Int) ^ 116) * 8589934592 = 16777216 * UU := by rw [BB_is]; decide
  have e2 := congrArg (fun z : Int => (z : Rat)) e
  simp only [Rat.intCast_mul] at e2
  unfold WW
  rw [Rat.intCast_mul, Rat.intCast_mul, ← e2]
  generalize (((2 : Int) ^ 116 : Int) : Rat) = u
  have h1 : ((-8589935 : Int) : Rat) = -8589935 := rfl
  have h2 : ((8589934592 : Int) : Rat) = 8589934592 := rfl
  rw [h1, h2]
  grind
theorem b_dy {n i tk : Nat} {gs ls qs js vs : List Nat} {v : Int} (ht : dy .f32 tk 64) (hs : dy .f32 (sI n ls js i n) v) (hv : v.natAbs < 2 ^ 24) (g0 : gs.getD i 0 = 0) (q0 : qs.getD i 0 = 0) (v0 : vs.getD i 0 = 0) : cq (bV n gs ls qs js vs tk i) ((v : Rat) / 128) := by
  have z : dy .f32 0 0 := dy_z
  have d1 : dy .f32 (fop .mul .f32 0 0) 0 := dy_mul z z (by decide) (by decide)
  have d2 : dy .f32 (fop .sub .f32 0 (fop .mul .f32 0 0)) 0 := dy_sub z d1 (by decide)
  have d3 : dy .f32 (fop .mul .f32 tk (fop .sub .f32 0 (fop .mul .f32 0 0))) 0 := dy_mul ht d2 (by decide) (by decide)
  have d4 := dy_add hs d3 (by rw [Int.add_zero]; exact hv)
  rw [Int.add_zero] at d4
  refine ⟨?_, apx_z⟩
  rw [bV_eq, g0, q0, v0]
  exact qv_dy d4
theorem in_prod {l q u : Int} {x y : Nat} (hx : dy .f32 x l) (hl : l = 32 * q) (hy : dy .f32 y (32 * u)) (h : (8 * (q * u)).natAbs < 2 ^ 24) : dy .f32 (fop .mul .f32 x y) (8 * (q * u)) := dy_mul hx hy (by rw [hl]; grind) h
theorem nq_bd {n tk i : Nat} {rs gs ls qs js vs : List Nat} {x : Rat} (ht : dy .f32 tk 64) (hi : i < n) (q0 : qs.getD i 0 = 0) (hx : qv ((nI n rs gs ls qs js vs tk n).getD i 0) x) (rx : Rg x (67 / 20)) : ∃ c, qv ((nQ n rs gs ls qs js vs tk n).getD i 0) c ∧ Rg c 4 := by
  rw [nQ_get hi, q0]
  have ht2 := qv_dy ht
  have e32 : ((64 : Int) : Rat) / 128 = 1 / 2 := by decide +kernel
  rw [e32] at ht2
  obtain ⟨r1, r2⟩ := rx
  obtain ⟨p, p1, p2, p3⟩ := qv_mul p1 (by decide) ht2 hx (by grind) (by grind)
  obtain ⟨z, z1, z2, z3⟩ := qv_add p8 (by decide) qv_zero p1 (by grind) (by grind)
  exact ⟨z, z1, by grind, by grind⟩
theorem bnd_mul {a b : Int} {A B : Int} (h1 : -A ≤ a) (h2 : a ≤ A) (h3 : -B ≤ b) (h4 : b ≤ B) : -(A * B) ≤ a * b ∧ a * b ≤ A * B := by
  have g1 := Int.mul_nonneg (show 0 ≤ A - a by omega) (show 0 ≤ B - b by omega)
  have g2 := Int.mul_nonneg (show 0 ≤ A + a by omega) (show 0 ≤ B + b by omega)
  have g3 := Int.mul_nonneg (show 0 ≤ A - a by omega) (show 0 ≤ B + b by omega)
  have g4 := Int.mul_nonneg (show 0 ≤ A + a by omega) (show 0 ≤ B - b by omega)
  exact ⟨by grind, by grind⟩

theorem CD.tick1 {rs gs ls vs qs js : List Nat} (h : CD 1 rs gs ls) {s tk : Nat} {S : Rat} (hS : pw2 s S) (hs : s ≤ 50) (hS2 : 2 ≤ S) (ht : dy .f32 tk 32) (hv : Bd 1 vs 2) (hq : Bd 1 qs S) (hj : Bd 1 js S) :
    SOk 1 (mA 1 rs ls tk) (bV 1 gs ls qs js vs tk) ∧ Bd 1 (nI 1 rs gs ls qs js vs tk 1) (64 * S) ∧ Bd 1 (nQ 1 rs gs ls qs js vs tk 1) (64 * S) := by
  obtain ⟨l0, t0, x0, y0, z0, w0, _, _, _, c0⟩ := h.dg (tk := tk) (τ := 1) (i := 0) ht (by decide) (by decide) (by decide)
  obtain ⟨b0, f0, g0⟩ := h.bWb hS hs hS2 ht hv hq hj (i := 0) (by decide)
  obtain ⟨ok, X0, C0, R0, _⟩ := sol1 (s := s + 1) (S := 2 * S) (pw2_mul 1 (J := 2) rfl hS) (by omega) c0 f0 (dg_lo x0 (by omega)) (dg_hi y0 (by omega))  g0
  refine ⟨ok, next_bd hS hs ht hq fun i hi => ?_⟩
  rcases (by omega : i = 0) with rfl
  · exact ⟨_, C0, R0⟩

theorem enf1 {gs ls qs js : List Nat} {l0 : Int} {a0 c0 : Rat} (d00 : dy .f32 (ls.getD (0 * 1 + 0) 0) l0) (h00 : 2 * (l0 / 2) = l0) (k00 : -704 ≤ l0) (g00 : l0 ≤ 704) (q0 : qv (js.getD 0 0) a0) (r0 : Rg a0 (67 / 20)) (z0 : gs.getD 0 0 = 0) (p0 : qv (qs.getD 0 0) c0) (s0 : Rg c0 4) :
    ap (eG gs qs (eO 1 ls js 1) 1) (en3 (((l0 : Int) : Rat) / 128) 0 0 2 0 2 a0 0 0) (12 / 100000) := by
  obtain ⟨A00, V00⟩ := eT_dg d00 h00 k00 g00 q0 q0 r0 r0
  have G0 := eG_t z0 p0 s0
  have B0 := ap_add (D := 218 / 16777216) ap0 A00 rgz V00 (by decide +kernel) (by decide +kernel)
  have W0 := (rgz.add V00).mono (B := 310 / 10) (by decide +kernel)
  have B1 := ap_add (D := 354 / 16777216) B0 G0 W0 rgz (by decide +kernel) (by decide +kernel)
  have W1 := (W0.add rgz).mono (B := 310 / 10) (by decide +kernel)
  obtain ⟨Z, Z1, Z2, Z3⟩ := B1
  refine ⟨Z, by simp only [eG_succ, eG_zero, eO_succ, eO_zero, eI_succ, eI_zero]; exact Z1, ?_⟩
  unfold en3
  exact ⟨by grind, by grind⟩

theorem enb1 {x : Nat} {B a0 : Rat} {l0 : Int} (h1 : qv x B) (h2 : -(12 / 100000) ≤ B - en3 (((l0 : Int) : Rat) / 128) 0 0 2 0 2 a0 0 0) (h3 : B - en3 (((l0 : Int) : Rat) / 128) 0 0 2 0 2 a0 0 0 ≤ 12 / 100000) (I0 : Rg a0 2) (x0 : 256 ≤ l0) (y0 : l0 ≤ 704)  : Rg B 128 := by
  have p0 := rmul (rmul (q_rg (B := 11 / 2) (-704) 704 (by omega) y0 (by decide +kernel) (by decide +kernel)) I0) I0
  obtain ⟨p0a, p0b⟩ := p0
  unfold en3 at h2 h3
  exact ⟨by grind, by grind⟩

theorem CD.energy1 {rs gs ls vs qs js : List Nat} (h : CD 1 rs gs ls) {tk : Nat} (ht : dy .f32 tk 64) (g0 : ∀ i, i < 1 → gs.getD i 0 = 0) (v0 : ∀ i, i < 1 → vs.getD i 0 = 0) (q0 : ∀ i, i < 1 → qs.getD i 0 = 0) (hj : ∀ i, i < 1 → ∃ u : Int, u.natAbs ≤ 8 ∧ dy .f32 (js.getD i 0) (32 * u)) :
    SOk 1 (mA 1 rs ls tk) (bV 1 gs ls qs js vs tk) ∧ fcmp .leq .f32 (eG gs (nQ 1 rs gs ls qs js vs tk 1) (eO 1 ls (nI 1 rs gs ls qs js vs tk 1) 1) 1) (fop .add .f32 (eG gs qs (eO 1 ls js 1) 1) 981668463) = true ∧ fcmp .gtr .f32 (eG gs (nQ 1 rs gs ls qs js vs tk 1) (eO 1 ls (nI 1 rs gs ls qs js vs tk 1) 1) 1) 3129152111 = true := by
  obtain ⟨l0, t0, x0, y0, z0, w0, d0, o0, ⟨k0, K0⟩, c0⟩ := h.dg (tk := tk) (τ := 2) (i := 0) ht (by decide) (by decide) (by decide)
  obtain ⟨i0, a0, j0⟩ := hj 0 (by decide)
  have P00 := bnd_mul (a := (2 * k0)) (A := 22) (b := i0) (B := 8) (by omega) (by omega) (by omega) (by omega)
  have Q00 := in_prod (q := (2 * k0)) d0 (by omega) j0 (by omega)
  have S00 : dy .f32 (sI 1 ls js 0 0) 0 := by rw [sI_zero]; exact dy_z
  have S01 : dy .f32 (sI 1 ls js 0 1) (0 + 8 * ((2 * k0) * i0)) := by rw [sI_succ]; exact dy_add S00 Q00 (by omega)
  have b0 := b_dy (vs := vs) (qs := qs) (gs := gs) ht S01 (by omega) (g0 0 (by decide)) (q0 0 (by decide)) (v0 0 (by decide))
  have rb0 : Rg ((((0 + 8 * ((2 * k0) * i0)) : Int) : Rat) / 128) (142 / 10 * 1) := q_rg (-1792) 1792 (by omega) (by omega) (by decide +kernel) (by decide +kernel)
  obtain ⟨ok, X0, C0, R0, RES⟩ := sol1 (s := 0) (S := 1) p0 (by decide) c0 b0 (dg_lo x0 (by omega)) (dg_hi y0 (by omega))  rb0
  refine ⟨ok, ?_⟩
  rw [Rat.mul_one] at R0
  obtain F0 := RES (287 / 10) (by decide +kernel) R0
  have cst : ∀ a b : Int, ((a + b : Int) : Rat) = (a : Rat) + b := fun a b => Rat.intCast_add a b
  have csm : ∀ a b : Int, ((a * b : Int) : Rat) = (a : Rat) * b := fun a b => Rat.intCast_mul a b
  have c8 : ((8 : Int) : Rat) = 8 := rfl
  have c2 : ((2 : Int) : Rat) = 2 := rfl
  have c0i : ((0 : Int) : Rat) = 0 := rfl
  have c32 : ((32 : Int) : Rat) = 32 := rfl
  have c64 : ((64 : Int) : Rat) = 64 := rfl
  obtain ⟨rr0, hr0⟩ : ∃ r : Rat, r = ((l0 + t0 : Int) : Rat) / 128 * X0 - (((0 + 8 * ((2 * k0) * i0)) : Int) : Rat) / 128 := ⟨_, rfl⟩
  have E0 : ((((l0 : Int) : Rat) / 128) + (((t0 : Int) : Rat) / 128)) * X0 + 0 * 0 + 0 * 0 = (((l0 : Int) : Rat) / 128) * (((32 * i0 : Int) : Rat) / 128) + 0 * 0 + 0 * 0 + rr0 := by
    rw [hr0]
    simp only [K0, cst, csm, c8, c2, c0i, c32, c64]
    grind
  have E1 : (0 * X0 + (2 + 0) * 0 + 0 * 0 : Rat) = 0 * (((32 * i0 : Int) : Rat) / 128) + 2 * 0 + 0 * 0 + 0 := by grind
  have E2 : (0 * X0 + 0 * 0 + (2 + 0) * 0 : Rat) = 0 * (((32 * i0 : Int) : Rat) / 128) + 0 * 0 + 2 * 0 + 0 := by grind
  have r0z : Rg (0 : Rat) (1 / 100) := ⟨by decide +kernel, by decide +kernel⟩
  have i0z : Rg (0 : Rat) 2 := ⟨by decide +kernel, by decide +kernel⟩
  have z34 : Rg (0 : Rat) (3 / 4) := ⟨by decide +kernel, by decide +kernel⟩
  rw [← hr0] at F0
  have F0' : Rg rr0 (1 / 100) := F0.mono (by decide +kernel)
  have I0 : Rg (((32 * i0 : Int) : Rat) / 128) 2 := q_rg (-256) 256 (by omega) (by omega) (by decide +kernel) (by decide +kernel)
  have L0 : 2 ≤ ((l0 : Int) : Rat) / 128 := by
    have := (q128 (lo := 256) x0 y0).1
    have q : ((256 : Int) : Rat) / 128 = 2 := by decide +kernel
    rw [q] at this; exact this
  have T0 : 0 ≤ (((t0 : Int) : Rat) / 128) ∧ (((t0 : Int) : Rat) / 128) ≤ 1 := by
    have := q128 (v := t0) (lo := 0) (hi := 128) (by omega) (by omega)
    have q : ((0 : Int) : Rat) / 128 = 0 := by decide +kernel
    have q2 : ((128 : Int) : Rat) / 128 = 1 := by decide +kernel
    rw [q, q2] at this; exact this
  have M := dmax L0 (by decide +kernel) (by decide +kernel) z34 z34 z34 T0.1 T0.2 (by decide +kernel) (by decide +kernel) (by decide +kernel) (by decide +kernel) I0 i0z i0z F0' r0z r0z E0 E1 E2
  obtain H0 := RES (67 / 20) (by decide +kernel) M.1
  rw [← hr0] at H0
  have N := en3_le L0 (by decide +kernel) (by decide +kernel) z34 z34 z34 T0.1 (by decide +kernel) (by decide +kernel) E0 E1 E2
  have N2 := en3_pos (x0 := X0) (x1 := 0) (x2 := 0) L0 (show (2 : Rat) ≤ 2 by decide +kernel) (show (2 : Rat) ≤ 2 by decide +kernel) z34 z34 z34
  have U0 := rmul M.1 H0
  obtain ⟨U0a, U0b⟩ := U0
  have n0 : qv ((nI 1 rs gs ls qs js vs tk 1).getD 0 0) X0 := by rw [nI_get (by decide)]; exact C0.1
  obtain ⟨w0, W0, Y0⟩ := nq_bd ht (by decide) (q0 0 (by decide)) n0 M.1
  obtain ⟨A, A1, A2, A3⟩ := enf1 (gs := gs) d0 (by omega) (by omega) (by omega) n0 M.1 (g0 0 (by decide)) W0 Y0
  have J0 : qv (js.getD 0 0) (((32 * i0 : Int) : Rat) / 128) := qv_dy j0
  have zq : ∀ i, i < 1 → qv (qs.getD i 0) 0 := fun i hi => by rw [q0 i hi]; exact qv_zero
  have z4 : Rg (0 : Rat) 4 := ⟨by decide +kernel, by decide +kernel⟩
  obtain ⟨B, B1, B2, B3⟩ := enf1 (gs := gs) d0 (by omega) (by omega) (by omega) J0 (I0.mono (by decide +kernel)) (g0 0 (by decide)) (zq 0 (by decide)) z4
  have BB : Rg B 128 := enb1 B1 B2 B3 I0 x0 y0 
  obtain ⟨B4, B5⟩ := BB
  obtain ⟨V, V1, V2, V3⟩ := qv_add (pw2_mul 1 (J := 2) rfl p128) (by decide) B1 qv_c1 (by grind) (by grind)
  refine ⟨qv_le A1 V1 ?_, qv_gt A1 qv_c2 ?_⟩
  · generalize en3 (((l0 : Int) : Rat) / 128) 0 0 2 0 2 X0 0 0 = ex at *
    generalize en3 (((l0 : Int) : Rat) / 128) 0 0 2 0 2 (((32 * i0 : Int) : Rat) / 128) 0 0 = ei at *
    clear E0 E1 E2 N2 B4 B5
    grind
  · generalize en3 (((l0 : Int) : Rat) / 128) 0 0 2 0 2 X0 0 0 = ex at *
    clear E0 E1 E2 N B2 B3
    grind

theorem CD.tick2 {rs gs ls vs qs js : List Nat} (h : CD 2 rs gs ls) {s tk : Nat} {S : Rat} (hS : pw2 s S) (hs : s ≤ 50) (hS2 : 2 ≤ S) (ht : dy .f32 tk 32) (hv : Bd 2 vs 2) (hq : Bd 2 qs S) (hj : Bd 2 js S) :
    SOk 2 (mA 2 rs ls tk) (bV 2 gs ls qs js vs tk) ∧ Bd 2 (nI 2 rs gs ls qs js vs tk 2) (64 * S) ∧ Bd 2 (nQ 2 rs gs ls qs js vs tk 2) (64 * S) := by
  obtain ⟨l0, t0, x0, y0, z0, w0, _, _, _, c0⟩ := h.dg (tk := tk) (τ := 1) (i := 0) ht (by decide) (by decide) (by decide)
  obtain ⟨l1, t1, x1, y1, z1, w1, _, _, _, c1⟩ := h.dg (tk := tk) (τ := 1) (i := 1) ht (by decide) (by decide) (by decide)
  obtain ⟨m10, u10, v10, _, _, _, d10, e10⟩ := h.of (tk := tk) (i := 1) (j := 0) (by decide) (by decide)
  obtain ⟨b0, f0, g0⟩ := h.bWb hS hs hS2 ht hv hq hj (i := 0) (by decide)
  obtain ⟨b1, f1, g1⟩ := h.bWb hS hs hS2 ht hv hq hj (i := 1) (by decide)
  obtain ⟨ok, X0, X1, C0, R0, C1, R1, _⟩ := sol2 (s := s + 1) (S := 2 * S) (pw2_mul 1 (J := 2) rfl hS) (by omega) c0 e10 d10 c1 f0 f1 (dg_lo x0 (by omega)) (dg_hi y0 (by omega)) (dg_lo x1 (by omega)) (dg_hi y1 (by omega)) (of_rg u10 v10) (of_rg u10 v10) g0 g1
  refine ⟨ok, next_bd hS hs ht hq fun i hi => ?_⟩
  rcases (by omega : i = 0 ∨ i = 1) with rfl | rfl
  · exact ⟨_, C0, R0⟩
  · exact ⟨_, C1, R1⟩

theorem enf2 {gs ls qs js : List Nat} {l0 m10 l1 : Int} {a0 c0 a1 c1 : Rat} (d00 : dy .f32 (ls.getD (0 * 2 + 0) 0) l0) (d01 : dy .f32 (ls.getD (0 * 2 + 1) 0) m10) (d10 : dy .f32 (ls.getD (1 * 2 + 0) 0) m10) (d11 : dy .f32 (ls.getD (1 * 2 + 1) 0) l1) (h00 : 2 * (l0 / 2) = l0) (k00 : -704 ≤ l0) (g00 : l0 ≤ 704) (h10 : 2 * (m10 / 2) = m10) (k10 : -96 ≤ m10) (g10 : m10 ≤ 96) (h11 : 2 * (l1 / 2) = l1) (k11 : -704 ≤ l1) (g11 : l1 ≤ 704) (q0 : qv (js.getD 0 0) a0) (r0 : Rg a0 (67 / 20)) (q1 : qv (js.getD 1 0) a1) (r1 : Rg a1 (67 / 20)) (z0 : gs.getD 0 0 = 0) (p0 : qv (qs.getD 0 0) c0) (s0 : Rg c0 4) (z1 : gs.getD 1 0 = 0) (p1 : qv (qs.getD 1 0) c1) (s1 : Rg c1 4) :
    ap (eG gs qs (eO 2 ls js 2) 2) (en3 (((l0 : Int) : Rat) / 128) (((m10 : Int) : Rat) / 128) 0 (((l1 : Int) : Rat) / 128) 0 2 a0 a1 0) (12 / 100000) := by
  obtain ⟨A00, V00⟩ := eT_dg d00 h00 k00 g00 q0 q0 r0 r0
  obtain ⟨A01, V01⟩ := eT_of d01 h10 k10 g10 q0 q1 r0 r1
  obtain ⟨A10, V10⟩ := eT_of d10 h10 k10 g10 q1 q0 r1 r0
  obtain ⟨A11, V11⟩ := eT_dg d11 h11 k11 g11 q1 q1 r1 r1
  have G0 := eG_t z0 p0 s0
  have G1 := eG_t z1 p1 s1
  have B0 := ap_add (D := 218 / 16777216) ap0 A00 rgz V00 (by decide +kernel) (by decide +kernel)
  have W0 := (rgz.add V00).mono (B := 310 / 10) (by decide +kernel)
  have B1 := ap_add (D := 362 / 16777216) B0 A01 W0 V01 (by decide +kernel) (by decide +kernel)
  have W1 := (W0.add V01).mono (B := 353 / 10) (by decide +kernel)
  have B2 := ap_add (D := 506 / 16777216) B1 A10 W1 V10 (by decide +kernel) (by decide +kernel)
  have W2 := (W1.add V10).mono (B := 396 / 10) (by decide +kernel)
  have B3 := ap_add (D := 724 / 16777216) B2 A11 W2 V11 (by decide +kernel) (by decide +kernel)
  have W3 := (W2.add V11).mono (B := 706 / 10) (by decide +kernel)
  have B4 := ap_add (D := 860 / 16777216) B3 G0 W3 rgz (by decide +kernel) (by decide +kernel)
  have W4 := (W3.add rgz).mono (B := 706 / 10) (by decide +kernel)
  have B5 := ap_add (D := 996 / 16777216) B4 G1 W4 rgz (by decide +kernel) (by decide +kernel)
  have W5 := (W4.add rgz).mono (B := 706 / 10) (by decide +kernel)
  obtain ⟨Z, Z1, Z2, Z3⟩ := B5
  refine ⟨Z, by simp only [eG_succ, eG_zero, eO_succ, eO_zero, eI_succ, eI_zero]; exact Z1, ?_⟩
  unfold en3
  exact ⟨by grind, by grind⟩

theorem enb2 {x : Nat} {B a0 a1 : Rat} {l0 m10 l1 : Int} (h1 : qv x B) (h2 : -(12 / 100000) ≤ B - en3 (((l0 : Int) : Rat) / 128) (((m10 : Int) : Rat) / 128) 0 (((l1 : Int) : Rat) / 128) 0 2 a0 a1 0) (h3 : B - en3 (((l0 : Int) : Rat) / 128) (((m10 : Int) : Rat) / 128) 0 (((l1 : Int) : Rat) / 128) 0 2 a0 a1 0 ≤ 12 / 100000) (I0 : Rg a0 2) (I1 : Rg a1 2) (x0 : 256 ≤ l0) (y0 : l0 ≤ 704) (x1 : 256 ≤ l1) (y1 : l1 ≤ 704) (u10 : -96 ≤ m10) (v10 : m10 ≤ 96) : Rg B 128 := by
  have p0 := rmul (rmul (q_rg (B := 11 / 2) (-704) 704 (by omega) y0 (by decide +kernel) (by decide +kernel)) I0) I0
  have p1 := rmul (rmul (q_rg (B := 11 / 2) (-704) 704 (by omega) y1 (by decide +kernel) (by decide +kernel)) I1) I1
  have p10 := rmul (rmul (of_rg u10 v10) I0) I1
  obtain ⟨p0a, p0b⟩ := p0
  obtain ⟨p1a, p1b⟩ := p1
  obtain ⟨p10a, p10b⟩ := p10
  unfold en3 at h2 h3
  exact ⟨by grind, by grind⟩

theorem CD.energy2 {rs gs ls vs qs js : List Nat} (h : CD 2 rs gs ls) {tk : Nat} (ht : dy .f32 tk 64) (g0 : ∀ i, i < 2 → gs.getD i 0 = 0) (v0 : ∀ i, i < 2 → vs.getD i 0 = 0) (q0 : ∀ i, i < 2 → qs.getD i 0 = 0) (hj : ∀ i, i < 2 → ∃ u : Int, u.natAbs ≤ 8 ∧ dy .f32 (js.getD i 0) (32 * u)) :
    SOk 2 (mA 2 rs ls tk) (bV 2 gs ls qs js vs tk) ∧ fcmp .leq .f32 (eG gs (nQ 2 rs gs ls qs js vs tk 2) (eO 2 ls (nI 2 rs gs ls qs js vs tk 2) 2) 2) (fop .add .f32 (eG gs qs (eO 2 ls js 2) 2) 981668463) = true ∧ fcmp .gtr .f32 (eG gs (nQ 2 rs gs ls qs js vs tk 2) (eO 2 ls (nI 2 rs gs ls qs js vs tk 2) 2) 2) 3129152111 = true := by
  obtain ⟨l0, t0, x0, y0, z0, w0, d0, o0, ⟨k0, K0⟩, c0⟩ := h.dg (tk := tk) (τ := 2) (i := 0) ht (by decide) (by decide) (by decide)
  obtain ⟨l1, t1, x1, y1, z1, w1, d1, o1, ⟨k1, K1⟩, c1⟩ := h.dg (tk := tk) (τ := 2) (i := 1) ht (by decide) (by decide) (by decide)
  obtain ⟨m10, u10, v10, d10, D10, ⟨k10, K10⟩, c10, e10⟩ := h.of (tk := tk) (i := 1) (j := 0) (by decide) (by decide)
  obtain ⟨i0, a0, j0⟩ := hj 0 (by decide)
  obtain ⟨i1, a1, j1⟩ := hj 1 (by decide)
  have P00 := bnd_mul (a := (2 * k0)) (A := 22) (b := i0) (B := 8) (by omega) (by omega) (by omega) (by omega)
  have P01 := bnd_mul (a := k10) (A := 3) (b := i1) (B := 8) (by omega) (by omega) (by omega) (by omega)
  have P10 := bnd_mul (a := k10) (A := 3) (b := i0) (B := 8) (by omega) (by omega) (by omega) (by omega)
  have P11 := bnd_mul (a := (2 * k1)) (A := 22) (b := i1) (B := 8) (by omega) (by omega) (by omega) (by omega)
  have Q00 := in_prod (q := (2 * k0)) d0 (by omega) j0 (by omega)
  have Q01 := in_prod (q := k10) D10 (by omega) j1 (by omega)
  have S00 : dy .f32 (sI 2 ls js 0 0) 0 := by rw [sI_zero]; exact dy_z
  have S01 : dy .f32 (sI 2 ls js 0 1) (0 + 8 * ((2 * k0) * i0)) := by rw [sI_succ]; exact dy_add S00 Q00 (by omega)
  have S02 : dy .f32 (sI 2 ls js 0 2) ((0 + 8 * ((2 * k0) * i0)) + 8 * (k10 * i1)) := by rw [sI_succ]; exact dy_add S01 Q01 (by omega)
  have b0 := b_dy (vs := vs) (qs := qs) (gs := gs) ht S02 (by omega) (g0 0 (by decide)) (q0 0 (by decide)) (v0 0 (by decide))
  have rb0 : Rg (((((0 + 8 * ((2 * k0) * i0)) + 8 * (k10 * i1)) : Int) : Rat) / 128) (142 / 10 * 1) := q_rg (-1792) 1792 (by omega) (by omega) (by decide +kernel) (by decide +kernel)
  have Q10 := in_prod (q := k10) d10 (by omega) j0 (by omega)
  have Q11 := in_prod (q := (2 * k1)) d1 (by omega) j1 (by omega)
  have S10 : dy .f32 (sI 2 ls js 1 0) 0 := by rw [sI_zero]; exact dy_z
  have S11 : dy .f32 (sI 2 ls js 1 1) (0 + 8 * (k10 * i0)) := by rw [sI_succ]; exact dy_add S10 Q10 (by omega)
  have S12 : dy .f32 (sI 2 ls js 1 2) ((0 + 8 * (k10 * i0)) + 8 * ((2 * k1) * i1)) := by rw [sI_succ]; exact dy_add S11 Q11 (by omega)
  have b1 := b_dy (vs := vs) (qs := qs) (gs := gs) ht S12 (by omega) (g0 1 (by decide)) (q0 1 (by decide)) (v0 1 (by decide))
  have rb1 : Rg (((((0 + 8 * (k10 * i0)) + 8 * ((2 * k1) * i1)) : Int) : Rat) / 128) (142 / 10 * 1) := q_rg (-1792) 1792 (by omega) (by omega) (by decide +kernel) (by decide +kernel)
  obtain ⟨ok, X0, X1, C0, R0, C1, R1, RES⟩ := sol2 (s := 0) (S := 1) p0 (by decide) c0 e10 c10 c1 b0 b1 (dg_lo x0 (by omega)) (dg_hi y0 (by omega)) (dg_lo x1 (by omega)) (dg_hi y1 (by omega)) (of_rg u10 v10) (of_rg u10 v10) rb0 rb1
  refine ⟨ok, ?_⟩
  rw [Rat.mul_one] at R0
  rw [Rat.mul_one] at R1
  obtain ⟨F0, F1⟩ := RES (287 / 10) (by decide +kernel) R0 R1
  have cst : ∀ a b : Int, ((a + b : Int) : Rat) = (a : Rat) + b := fun a b => Rat.intCast_add a b
  have csm : ∀ a b : Int, ((a * b : Int) : Rat) = (a : Rat) * b := fun a b => Rat.intCast_mul a b
  have c8 : ((8 : Int) : Rat) = 8 := rfl
  have c2 : ((2 : Int) : Rat) = 2 := rfl
  have c0i : ((0 : Int) : Rat) = 0 := rfl
  have c32 : ((32 : Int) : Rat) = 32 := rfl
  have c64 : ((64 : Int) : Rat) = 64 := rfl
  obtain ⟨rr0, hr0⟩ : ∃ r : Rat, r = ((l0 + t0 : Int) : Rat) / 128 * X0 + ((m10 : Int) : Rat) / 128 * X1 - ((((0 + 8 * ((2 * k0) * i0)) + 8 * (k10 * i1)) : Int) : Rat) / 128 := ⟨_, rfl⟩
  obtain ⟨rr1, hr1⟩ : ∃ r : Rat, r = ((m10 : Int) : Rat) / 128 * X0 + ((l1 + t1 : Int) : Rat) / 128 * X1 - ((((0 + 8 * (k10 * i0)) + 8 * ((2 * k1) * i1)) : Int) : Rat) / 128 := ⟨_, rfl⟩
  have E0 : ((((l0 : Int) : Rat) / 128) + (((t0 : Int) : Rat) / 128)) * X0 + (((m10 : Int) : Rat) / 128) * X1 + 0 * 0 = (((l0 : Int) : Rat) / 128) * (((32 * i0 : Int) : Rat) / 128) + (((m10 : Int) : Rat) / 128) * (((32 * i1 : Int) : Rat) / 128) + 0 * 0 + rr0 := by
    rw [hr0]
    simp only [K0, K10, cst, csm, c8, c2, c0i, c32, c64]
    grind
  have E1 : (((m10 : Int) : Rat) / 128) * X0 + ((((l1 : Int) : Rat) / 128) + (((t1 : Int) : Rat) / 128)) * X1 + 0 * 0 = (((m10 : Int) : Rat) / 128) * (((32 * i0 : Int) : Rat) / 128) + (((l1 : Int) : Rat) / 128) * (((32 * i1 : Int) : Rat) / 128) + 0 * 0 + rr1 := by
    rw [hr1]
    simp only [K1, K10, cst, csm, c8, c2, c0i, c32, c64]
    grind
  have E2 : (0 * X0 + 0 * X1 + (2 + 0) * 0 : Rat) = 0 * (((32 * i0 : Int) : Rat) / 128) + 0 * (((32 * i1 : Int) : Rat) / 128) + 2 * 0 + 0 := by grind
  have r0z : Rg (0 : Rat) (1 / 100) := ⟨by decide +kernel, by decide +kernel⟩
  have i0z : Rg (0 : Rat) 2 := ⟨by decide +kernel, by decide +kernel⟩
  have z34 : Rg (0 : Rat) (3 / 4) := ⟨by decide +kernel, by decide +kernel⟩
  rw [← hr0] at F0
  rw [← hr1] at F1
  have F0' : Rg rr0 (1 / 100) := F0.mono (by decide +kernel)
  have F1' : Rg rr1 (1 / 100) := F1.mono (by decide +kernel)
  have I0 : Rg (((32 * i0 : Int) : Rat) / 128) 2 := q_rg (-256) 256 (by omega) (by omega) (by decide +kernel) (by decide +kernel)
  have I1 : Rg (((32 * i1 : Int) : Rat) / 128) 2 := q_rg (-256) 256 (by omega) (by omega) (by decide +kernel) (by decide +kernel)
  have L0 : 2 ≤ ((l0 : Int) : Rat) / 128 := by
    have := (q128 (lo := 256) x0 y0).1
    have q : ((256 : Int) : Rat) / 128 = 2 := by decide +kernel
    rw [q] at this; exact this
  have T0 : 0 ≤ (((t0 : Int) : Rat) / 128) ∧ (((t0 : Int) : Rat) / 128) ≤ 1 := by
    have := q128 (v := t0) (lo := 0) (hi := 128) (by omega) (by omega)
    have q : ((0 : Int) : Rat) / 128 = 0 := by decide +kernel
    have q2 : ((128 : Int) : Rat) / 128 = 1 := by decide +kernel
    rw [q, q2] at this; exact this
  have L1 : 2 ≤ ((l1 : Int) : Rat) / 128 := by
    have := (q128 (lo := 256) x1 y1).1
    have q : ((256 : Int) : Rat) / 128 = 2 := by decide +kernel
    rw [q] at this; exact this
  have T1 : 0 ≤ (((t1 : Int) : Rat) / 128) ∧ (((t1 : Int) : Rat) / 128) ≤ 1 := by
    have := q128 (v := t1) (lo := 0) (hi := 128) (by omega) (by omega)
    have q : ((0 : Int) : Rat) / 128 = 0 := by decide +kernel
    have q2 : ((128 : Int) : Rat) / 128 = 1 := by decide +kernel
    rw [q, q2] at this; exact this
  have M := dmax L0 L1 (by decide +kernel) (of_rg u10 v10) z34 z34 T0.1 T0.2 T1.1 T1.2 (by decide +kernel) (by decide +kernel) I0 I1 i0z F0' F1' r0z E0 E1 E2
  obtain ⟨H0, H1⟩ := RES (67 / 20) (by decide +kernel) M.1 M.2.1
  rw [← hr0] at H0
  rw [← hr1] at H1
  have N := en3_le L0 L1 (by decide +kernel) (of_rg u10 v10) z34 z34 T0.1 T1.1 (by decide +kernel) E0 E1 E2
  have N2 := en3_pos (x0 := X0) (x1 := X1) (x2 := 0) L0 L1 (show (2 : Rat) ≤ 2 by decide +kernel) (of_rg u10 v10) z34 z34
  have U0 := rmul M.1 H0
  have U1 := rmul M.2.1 H1
  obtain ⟨U0a, U0b⟩ := U0
  obtain ⟨U1a, U1b⟩ := U1
  have n0 : qv ((nI 2 rs gs ls qs js vs tk 2).getD 0 0) X0 := by rw [nI_get (by decide)]; exact C0.1
  have n1 : qv ((nI 2 rs gs ls qs js vs tk 2).getD 1 0) X1 := by rw [nI_get (by decide)]; exact C1.1
  obtain ⟨w0, W0, Y0⟩ := nq_bd ht (by decide) (q0 0 (by decide)) n0 M.1
  obtain ⟨w1, W1, Y1⟩ := nq_bd ht (by decide) (q0 1 (by decide)) n1 M.2.1
  obtain ⟨A, A1, A2, A3⟩ := enf2 (gs := gs) d0 D10 d10 d1 (by omega) (by omega) (by omega) (by omega) (by omega) (by omega) (by omega) (by omega) (by omega) n0 M.1 n1 M.2.1 (g0 0 (by decide)) W0 Y0 (g0 1 (by decide)) W1 Y1
  have J0 : qv (js.getD 0 0) (((32 * i0 : Int) : Rat) / 128) := qv_dy j0
  have J1 : qv (js.getD 1 0) (((32 * i1 : Int) : Rat) / 128) := qv_dy j1
  have zq : ∀ i, i < 2 → qv (qs.getD i 0) 0 := fun i hi => by rw [q0 i hi]; exact qv_zero
  have z4 : Rg (0 : Rat) 4 := ⟨by decide +kernel, by decide +kernel⟩
  obtain ⟨B, B1, B2, B3⟩ := enf2 (gs := gs) d0 D10 d10 d1 (by omega) (by omega) (by omega) (by omega) (by omega) (by omega) (by omega) (by omega) (by omega) J0 (I0.mono (by decide +kernel)) J1 (I1.mono (by decide +kernel)) (g0 0 (by decide)) (zq 0 (by decide)) z4 (g0 1 (by decide)) (zq 1 (by decide)) z4
  have BB : Rg B 128 := enb2 B1 B2 B3 I0 I1 x0 y0 x1 y1 u10 v10
  obtain ⟨B4, B5⟩ := BB
  obtain ⟨V, V1, V2, V3⟩ := qv_add (pw2_mul 1 (J := 2) rfl p128) (by decide) B1 qv_c1 (by grind) (by grind)
  refine ⟨qv_le A1 V1 ?_, qv_gt A1 qv_c2 ?_⟩
  · generalize en3 (((l0 : Int) : Rat) / 128) (((m10 : Int) : Rat) / 128) 0 (((l1 : Int) : Rat) / 128) 0 2 X0 X1 0 = ex at *
    generalize en3 (((l0 : Int) : Rat) / 128) (((m10 : Int) : Rat) / 128) 0 (((l1 : Int) : Rat) / 128) 0 2 (((32 * i0 : Int) : Rat) / 128) (((32 * i1 : Int) : Rat) / 128) 0 = ei at *
    clear E0 E1 E2 N2 B4 B5
    grind
  · generalize en3 (((l0 : Int) : Rat) / 128) (((m10 : Int) : Rat) / 128) 0 (((l1 : Int) : Rat) / 128) 0 2 X0 X1 0 = ex at *
    clear E0 E1 E2 N B2 B3
    grind

theorem CD.tick3 {rs gs ls vs qs js : List Nat} (h : CD 3 rs gs ls) {s tk : Nat} {S : Rat} (hS : pw2 s S) (hs : s ≤ 50) (hS2 : 2 ≤ S) (ht : dy .f32 tk 32) (hv : Bd 3 vs 2) (hq : Bd 3 qs S) (hj : Bd 3 js S) :
    SOk 3 (mA 3 rs ls tk) (bV 3 gs ls qs js vs tk) ∧ Bd 3 (nI 3 rs gs ls qs js vs tk 3) (64 * S) ∧ Bd 3 (nQ 3 rs gs ls qs js vs tk 3) (64 * S) := by
  obtain ⟨l0, t0, x0, y0, z0, w0, _, _, _, c0⟩ := h.dg (tk := tk) (τ := 1) (i := 0) ht (by decide) (by decide) (by decide)
  obtain ⟨l1, t1, x1, y1, z1, w1, _, _, _, c1⟩ := h.dg (tk := tk) (τ := 1) (i := 1) ht (by decide) (by decide) (by decide)
  obtain ⟨l2, t2, x2, y2, z2, w2, _, _, _, c2⟩ := h.dg (tk := tk) (τ := 1) (i := 2) ht (by decide) (by decide) (by decide)
  obtain ⟨m10, u10, v10, _, _, _, d10, e10⟩ := h.of (tk := tk) (i := 1) (j := 0) (by decide) (by decide)
  obtain ⟨m20, u20, v20, _, _, _, d20, e20⟩ := h.of (tk := tk) (i := 2) (j := 0) (by decide) (by decide)
  obtain ⟨m21, u21, v21, _, _, _, d21, e21⟩ := h.of (tk := tk) (i := 2) (j := 1) (by decide) (by decide)
  obtain ⟨b0, f0, g0⟩ := h.bWb hS hs hS2 ht hv hq hj (i := 0) (by decide)
  obtain ⟨b1, f1, g1⟩ := h.bWb hS hs hS2 ht hv hq hj (i := 1) (by decide)
  obtain ⟨b2, f2, g2⟩ := h.bWb hS hs hS2 ht hv hq hj (i := 2) (by decide)
  obtain ⟨ok, X0, X1, X2, C0, R0, C1, R1, C2, R2, _⟩ := sol3 (s := s + 1) (S := 2 * S) (pw2_mul 1 (J := 2) rfl hS) (by omega) c0 e10 e20 d10 c1 e21 d20 d21 c2 f0 f1 f2 (dg_lo x0 (by omega)) (dg_hi y0 (by omega)) (dg_lo x1 (by omega)) (dg_hi y1 (by omega)) (dg_lo x2 (by omega)) (dg_hi y2 (by omega)) (of_rg u10 v10) (of_rg u20 v20) (of_rg u10 v10) (of_rg u21 v21) (of_rg u20 v20) (of_rg u21 v21) g0 g1 g2
  refine ⟨ok, next_bd hS hs ht hq fun i hi => ?_⟩
  rcases (by omega : i = 0 ∨ i = 1 ∨ i = 2) with rfl | rfl | rfl
  · exact ⟨_, C0, R0⟩
  · exact ⟨_, C1, R1⟩
  · exact ⟨_, C2, R2⟩

theorem enf3 {gs ls qs js : List Nat} {l0 m10 l1 m20 m21 l2 : Int} {a0 c0 a1 c1 a2 c2 : Rat} (d00 : dy .f32 (ls.getD (0 * 3 + 0) 0) l0) (d01 : dy .f32 (ls.getD (0 * 3 + 1) 0) m10) (d02 : dy .f32 (ls.getD (0 * 3 + 2) 0) m20) (d10 : dy .f32 (ls.getD (1 * 3 + 0) 0) m10) (d11 : dy .f32 (ls.getD (1 * 3 + 1) 0) l1) (d12 : dy .f32 (ls.getD (1 * 3 + 2) 0) m21) (d20 : dy .f32 (ls.getD (2 * 3 + 0) 0) m20) (d21 : dy .f32 (ls.getD (2 * 3 + 1) 0) m21) (d22 : dy .f32 (ls.getD (2 * 3 + 2) 0) l2) (h00 : 2 * (l0 / 2) = l0) (k00 : -704 ≤ l0) (g00 : l0 ≤ 704) (h10 : 2 * (m10 / 2) = m10) (k10 : -96 ≤ m10) (g10 : m10 ≤ 96) (h11 : 2 * (l1 / 2) = l1) (k11 : -704 ≤ l1) (g11 : l1 ≤ 704) (h20 : 2 * (m20 / 2) = m20) (k20 : -96 ≤ m20) (g20 : m20 ≤ 96) (h21 : 2 * (m21 / 2) = m21) (k21 : -96 ≤ m21) (g21 : m21 ≤ 96) (h22 : 2 * (l2 / 2) = l2) (k22 : -704 ≤ l2) (g22 : l2 ≤ 704) (q0 : qv (js.getD 0 0) a0) (r0 : Rg a0 (67 / 20)) (q1 : qv (js.getD 1 0) a1) (r1 : Rg a1 (67 / 20)) (q2 : qv (js.getD 2 0) a2) (r2 : Rg a2 (67 / 20)) (z0 : gs.getD 0 0 = 0) (p0 : qv (qs.getD 0 0) c0) (s0 : Rg c0 4) (z1 : gs.getD 1 0 = 0) (p1 : qv (qs.getD 1 0) c1) (s1 : Rg c1 4) (z2 : gs.getD 2 0 = 0) (p2 : qv (qs.getD 2 0) c2) (s2 : Rg c2 4) :
    ap (eG gs qs (eO 3 ls js 3) 3) (en3 (((l0 : Int) : Rat) / 128) (((m10 : Int) : Rat) / 128) (((m20 : Int) : Rat) / 128) (((l1 : Int) : Rat) / 128) (((m21 : Int) : Rat) / 128) (((l2 : Int) : Rat) / 128) a0 a1 a2) (12 / 100000) := by
  obtain ⟨A00, V00⟩ := eT_dg d00 h00 k00 g00 q0 q0 r0 r0
  obtain ⟨A01, V01⟩ := eT_of d01 h10 k10 g10 q0 q1 r0 r1
  obtain ⟨A02, V02⟩ := eT_of d02 h20 k20 g20 q0 q2 r0 r2
  obtain ⟨A10, V10⟩ := eT_of d10 h10 k10 g10 q1 q0 r1 r0
  obtain ⟨A11, V11⟩ := eT_dg d11 h11 k11 g11 q1 q1 r1 r1
  obtain ⟨A12, V12⟩ := eT_of d12 h21 k21 g21 q1 q2 r1 r2
  obtain ⟨A20, V20⟩ := eT_of d20 h20 k20 g20 q2 q0 r2 r0
  obtain ⟨A21, V21⟩ := eT_of d21 h21 k21 g21 q2 q1 r2 r1
  obtain ⟨A22, V22⟩ := eT_dg d22 h22 k22 g22 q2 q2 r2 r2
  have G0 := eG_t z0 p0 s0
  have G1 := eG_t z1 p1 s1
  have G2 := eG_t z2 p2 s2
  have B0 := ap_add (D := 218 / 16777216) ap0 A00 rgz V00 (by decide +kernel) (by decide +kernel)
  have W0 := (rgz.add V00).mono (B := 310 / 10) (by decide +kernel)
  have B1 := ap_add (D := 362 / 16777216) B0 A01 W0 V01 (by decide +kernel) (by decide +kernel)
  have W1 := (W0.add V01).mono (B := 353 / 10) (by decide +kernel)
  have B2 := ap_add (D := 506 / 16777216) B1 A02 W1 V02 (by decide +kernel) (by decide +kernel)
  have W2 := (W1.add V02).mono (B := 396 / 10) (by decide +kernel)
  have B3 := ap_add (D := 650 / 16777216) B2 A10 W2 V10 (by decide +kernel) (by decide +kernel)
  have W3 := (W2.add V10).mono (B := 439 / 10) (by decide +kernel)
  have B4 := ap_add (D := 868 / 16777216) B3 A11 W3 V11 (by decide +kernel) (by decide +kernel)
  have W4 := (W3.add V11).mono (B := 749 / 10) (by decide +kernel)
  have B5 := ap_add (D := 1012 / 16777216) B4 A12 W4 V12 (by decide +kernel) (by decide +kernel)
  have W5 := (W4.add V12).mono (B := 792 / 10) (by decide +kernel)
  have B6 := ap_add (D := 1156 / 16777216) B5 A20 W5 V20 (by decide +kernel) (by decide +kernel)
  have W6 := (W5.add V20).mono (B := 835 / 10) (by decide +kernel)
  have B7 := ap_add (D := 1300 / 16777216) B6 A21 W6 V21 (by decide +kernel) (by decide +kernel)
  have W7 := (W6.add V21).mono (B := 878 / 10) (by decide +kernel)
  have B8 := ap_add (D := 1518 / 16777216) B7 A22 W7 V22 (by decide +kernel) (by decide +kernel)
  have W8 := (W7.add V22).mono (B := 1188 / 10) (by decide +kernel)
  have B9 := ap_add (D := 1654 / 16777216) B8 G0 W8 rgz (by decide +kernel) (by decide +kernel)
  have W9 := (W8.add rgz).mono (B := 1188 / 10) (by decide +kernel)
  have B10 := ap_add (D := 1790 / 16777216) B9 G1 W9 rgz (by decide +kernel) (by decide +kernel)
  have W10 := (W9.add rgz).mono (B := 1188 / 10) (by decide +kernel)
  have B11 := ap_add (D := 1926 / 16777216) B10 G2 W10 rgz (by decide +kernel) (by decide +kernel)
  have W11 := (W10.add rgz).mono (B := 1188 / 10) (by decide +kernel)
  obtain ⟨Z, Z1, Z2, Z3⟩ := B11
  refine ⟨Z, by simp only [eG_succ, eG_zero, eO_succ, eO_zero, eI_succ, eI_zero]; exact Z1, ?_⟩
  unfold en3
  exact ⟨by grind, by grind⟩

theorem enb3 {x : Nat} {B a0 a1 a2 : Rat} {l0 m10 l1 m20 m21 l2 : Int} (h1 : qv x B) (h2 : -(12 / 100000) ≤ B - en3 (((l0 : Int) : Rat) / 128) (((m10 : Int) : Rat) / 128) (((m20 : Int) : Rat) / 128) (((l1 : Int) : Rat) / 128) (((m21 : Int) : Rat) / 128) (((l2 : Int) : Rat) / 128) a0 a1 a2) (h3 : B - en3 (((l0 : Int) : Rat) / 128) (((m10 : Int) : Rat) / 128) (((m20 : Int) : Rat) / 128) (((l1 : Int) : Rat) / 128) (((m21 : Int) : Rat) / 128) (((l2 : Int) : Rat) / 128) a0 a1 a2 ≤ 12 / 100000) (I0 : Rg a0 2) (I1 : Rg a1 2) (I2 : Rg a2 2) (x0 : 256 ≤ l0) (y0 : l0 ≤ 704) (x1 : 256 ≤ l1) (y1 : l1 ≤ 704) (x2 : 256 ≤ l2) (y2 : l2 ≤ 704) (u10 : -96 ≤ m10) (v10 : m10 ≤ 96) (u20 : -96 ≤ m20) (v20 : m20 ≤ 96) (u21 : -96 ≤ m21) (v21 : m21 ≤ 96) : Rg B 128 := by
  have p0 := rmul (rmul (q_rg (B := 11 / 2) (-704) 704 (by omega) y0 (by decide +kernel) (by decide +kernel)) I0) I0
  have p1 := rmul (rmul (q_rg (B := 11 / 2) (-704) 704 (by omega) y1 (by decide +kernel) (by decide +kernel)) I1) I1
  have p10 := rmul (rmul (of_rg u10 v10) I0) I1
  have p2 := rmul (rmul (q_rg (B := 11 / 2) (-704) 704 (by omega) y2 (by decide +kernel) (by decide +kernel)) I2) I2
  have p20 := rmul (rmul (of_rg u20 v20) I0) I2
  have p21 := rmul (rmul (of_rg u21 v21) I1) I2
  obtain ⟨p0a, p0b⟩ := p0
  obtain ⟨p1a, p1b⟩ := p1
  obtain ⟨p10a, p10b⟩ := p10
  obtain ⟨p2a, p2b⟩ := p2
  obtain ⟨p20a, p20b⟩ := p20
  obtain ⟨p21a, p21b⟩ := p21
  unfold en3 at h2 h3
  exact ⟨by grind, by grind⟩

theorem CD.energy3 {rs gs ls vs qs js : List Nat} (h : CD 3 rs gs ls) {tk : Nat} (ht : dy .f32 tk 64) (g0 : ∀ i, i < 3 → gs.getD i 0 = 0) (v0 : ∀ i, i < 3 → vs.getD i 0 = 0) (q0 : ∀ i, i < 3 → qs.getD i 0 = 0) (hj : ∀ i, i < 3 → ∃ u : Int, u.natAbs ≤ 8 ∧ dy .f32 (js.getD i 0) (32 * u)) :
    SOk 3 (mA 3 rs ls tk) (bV 3 gs ls qs js vs tk) ∧ fcmp .leq .f32 (eG gs (nQ 3 rs gs ls qs js vs tk 3) (eO 3 ls (nI 3 rs gs ls qs js vs tk 3) 3) 3) (fop .add .f32 (eG gs qs (eO 3 ls js 3) 3) 981668463) = true ∧ fcmp .gtr .f32 (eG gs (nQ 3 rs gs ls qs js vs tk 3) (eO 3 ls (nI 3 rs gs ls qs js vs tk 3) 3) 3) 3129152111 = true := by
  obtain ⟨l0, t0, x0, y0, z0, w0, d0, o0, ⟨k0, K0⟩, c0⟩ := h.dg (tk := tk) (τ := 2) (i := 0) ht (by decide) (by decide) (by decide)
  obtain ⟨l1, t1, x1, y1, z1, w1, d1, o1, ⟨k1, K1⟩, c1⟩ := h.dg (tk := tk) (τ := 2) (i := 1) ht (by decide) (by decide) (by decide)
  obtain ⟨l2, t2, x2, y2, z2, w2, d2, o2, ⟨k2, K2⟩, c2⟩ := h.dg (tk := tk) (τ := 2) (i := 2) ht (by decide) (by decide) (by decide)
  obtain ⟨m10, u10, v10, d10, D10, ⟨k10, K10⟩, c10, e10⟩ := h.of (tk := tk) (i := 1) (j := 0) (by decide) (by decide)
  obtain ⟨m20, u20, v20, d20, D20, ⟨k20, K20⟩, c20, e20⟩ := h.of (tk := tk) (i := 2) (j := 0) (by decide) (by decide)
  obtain ⟨m21, u21, v21, d21, D21, ⟨k21, K21⟩, c21, e21⟩ := h.of (tk := tk) (i := 2) (j := 1) (by decide) (by decide)
  obtain ⟨i0, a0, j0⟩ := hj 0 (by decide)
  obtain ⟨i1, a1, j1⟩ := hj 1 (by decide)
  obtain ⟨i2, a2, j2⟩ := hj 2 (by decide)
  have P00 := bnd_mul (a := (2 * k0)) (A := 22) (b := i0) (B := 8) (by omega) (by omega) (by omega) (by omega)
  have P01 := bnd_mul (a := k10) (A := 3) (b := i1) (B := 8) (by omega) (by omega) (by omega) (by omega)
  have P02 := bnd_mul (a := k20) (A := 3) (b := i2) (B := 8) (by omega) (by omega) (by omega) (by omega)
  have P10 := bnd_mul (a := k10) (A := 3) (b := i0) (B := 8) (by omega) (by omega) (by omega) (by omega)
  have P11 := bnd_mul (a := (2 * k1)) (A := 22) (b := i1) (B := 8) (by omega) (by omega) (by omega) (by omega)
  have P12 := bnd_mul (a := k21) (A := 3) (b := i2) (B := 8) (by omega) (by omega) (by omega) (by omega)
  have P20 := bnd_mul (a := k20) (A := 3) (b := i0) (B := 8) (by omega) (by omega) (by omega) (by omega)
  have P21 := bnd_mul (a := k21) (A := 3) (b := i1) (B := 8) (by omega) (by omega) (by omega) (by omega)
  have P22 := bnd_mul (a := (2 * k2)) (A := 22) (b := i2) (B := 8) (by omega) (by omega) (by omega) (by omega)
  have Q00 := in_prod (q := (2 * k0)) d0 (by omega) j0 (by omega)
  have Q01 := in_prod (q := k10) D10 (by omega) j1 (by omega)
  have Q02 := in_prod (q := k20) D20 (by omega) j2 (by omega)
  have S00 : dy .f32 (sI 3 ls js 0 0) 0 := by rw [sI_zero]; exact dy_z
  have S01 : dy .f32 (sI 3 ls js 0 1) (0 + 8 * ((2 * k0) * i0)) := by rw [sI_succ]; exact dy_add S00 Q00 (by omega)
  have S02 : dy .f32 (sI 3 ls js 0 2) ((0 + 8 * ((2 * k0) * i0)) + 8 * (k10 * i1)) := by rw [sI_succ]; exact dy_add S01 Q01 (by omega)
  have S03 : dy .f32 (sI 3 ls js 0 3) (((0 + 8 * ((2 * k0) * i0)) + 8 * (k10 * i1)) + 8 * (k20 * i2)) := by rw [sI_succ]; exact dy_add S02 Q02 (by omega)
  have b0 := b_dy (vs := vs) (qs := qs) (gs := gs) ht S03 (by omega) (g0 0 (by decide)) (q0 0 (by decide)) (v0 0 (by decide))
  have rb0 : Rg ((((((0 + 8 * ((2 * k0) * i0)) + 8 * (k10 * i1)) + 8 * (k20 * i2)) : Int) : Rat) / 128) (142 / 10 * 1) := q_rg (-1792) 1792 (by omega) (by omega) (by decide +kernel) (by decide +kernel)
  have Q10 := in_prod (q := k10) d10 (by omega) j0 (by omega)
  have Q11 := in_prod (q := (2 * k1)) d1 (by omega) j1 (by omega)
  have Q12 := in_prod (q := k21) D21 (by omega) j2 (by omega)
  have S10 : dy .f32 (sI 3 ls js 1 0) 0 := by rw [sI_zero]; exact dy_z
  have S11 : dy .f32 (sI 3 ls js 1 1) (0 + 8 * (k10 * i0)) := by rw [sI_succ]; exact dy_add S10 Q10 (by omega)
  have S12 : dy .f32 (sI 3 ls js 1 2) ((0 + 8 * (k10 * i0)) + 8 * ((2 * k1) * i1)) := by rw [sI_succ]; exact dy_add S11 Q11 (by omega)
  have S13 : dy .f32 (sI 3 ls js 1 3) (((0 + 8 * (k10 * i0)) + 8 * ((2 * k1) * i1)) + 8 * (k21 * i2)) := by rw [sI_succ]; exact dy_add S12 Q12 (by omega)
  have b1 := b_dy (vs := vs) (qs := qs) (gs := gs) ht S13 (by omega) (g0 1 (by decide)) (q0 1 (by decide)) (v0 1 (by decide))
  have rb1 : Rg ((((((0 + 8 * (k10 * i0)) + 8 * ((2 * k1) * i1)) + 8 * (k21 * i2)) : Int) : Rat) / 128) (142 / 10 * 1) := q_rg (-1792) 1792 (by omega) (by omega) (by decide +kernel) (by decide +kernel)
  have Q20 := in_prod (q := k20) d20 (by omega) j0 (by omega)
  have Q21 := in_prod (q := k21) d21 (by omega) j1 (by omega)
  have Q22 := in_prod (q := (2 * k2)) d2 (by omega) j2 (by omega)
  have S20 : dy .f32 (sI 3 ls js 2 0) 0 := by rw [sI_zero]; exact dy_z
  have S21 : dy .f32 (sI 3 ls js 2 1) (0 + 8 * (k20 * i0)) := by rw [sI_succ]; exact dy_add S20 Q20 (by omega)
  have S22 : dy .f32 (sI 3 ls js 2 2) ((0 + 8 * (k20 * i0)) + 8 * (k21 * i1)) := by rw [sI_succ]; exact dy_add S21 Q21 (by omega)
  have S23 : dy .f32 (sI 3 ls js 2 3) (((0 + 8 * (k20 * i0)) + 8 * (k21 * i1)) + 8 * ((2 * k2) * i2)) := by rw [sI_succ]; exact dy_add S22 Q22 (by omega)
  have b2 := b_dy (vs := vs) (qs := qs) (gs := gs) ht S23 (by omega) (g0 2 (by decide)) (q0 2 (by decide)) (v0 2 (by decide))
  have rb2 : Rg ((((((0 + 8 * (k20 * i0)) + 8 * (k21 * i1)) + 8 * ((2 * k2) * i2)) : Int) : Rat) / 128) (142 / 10 * 1) := q_rg (-1792) 1792 (by omega) (by omega) (by decide +kernel) (by decide +kernel)
  obtain ⟨ok, X0, X1, X2, C0, R0, C1, R1, C2, R2, RES⟩ := sol3 (s := 0) (S := 1) p0 (by decide) c0 e10 e20 c10 c1 e21 c20 c21 c2 b0 b1 b2 (dg_lo x0 (by omega)) (dg_hi y0 (by omega)) (dg_lo x1 (by omega)) (dg_hi y1 (by omega)) (dg_lo x2 (by omega)) (dg_hi y2 (by omega)) (of_rg u10 v10) (of_rg u20 v20) (of_rg u10 v10) (of_rg u21 v21) (of_rg u20 v20) (of_rg u21 v21) rb0 rb1 rb2
  refine ⟨ok, ?_⟩
  rw [Rat.mul_one] at R0
  rw [Rat.mul_one] at R1
  rw [Rat.mul_one] at R2
  obtain ⟨F0, F1, F2⟩ := RES (287 / 10) (by decide +kernel) R0 R1 R2
  have cst : ∀ a b : Int, ((a + b : Int) : Rat) = (a : Rat) + b := fun a b => Rat.intCast_add a b
  have csm : ∀ a b : Int, ((a * b : Int) : Rat) = (a : Rat) * b := fun a b => Rat.intCast_mul a b
  have c8 : ((8 : Int) : Rat) = 8 := rfl
  have c2 : ((2 : Int) : Rat) = 2 := rfl
  have c0i : ((0 : Int) : Rat) = 0 := rfl
  have c32 : ((32 : Int) : Rat) = 32 := rfl
  have c64 : ((64 : Int) : Rat) = 64 := rfl
  obtain ⟨rr0, hr0⟩ : ∃ r : Rat, r = ((l0 + t0 : Int) : Rat) / 128 * X0 + ((m10 : Int) : Rat) / 128 * X1 + ((m20 : Int) : Rat) / 128 * X2 - (((((0 + 8 * ((2 * k0) * i0)) + 8 * (k10 * i1)) + 8 * (k20 * i2)) : Int) : Rat) / 128 := ⟨_, rfl⟩
  obtain ⟨rr1, hr1⟩ : ∃ r : Rat, r = ((m10 : Int) : Rat) / 128 * X0 + ((l1 + t1 : Int) : Rat) / 128 * X1 + ((m21 : Int) : Rat) / 128 * X2 - (((((0 + 8 * (k10 * i0)) + 8 * ((2 * k1) * i1)) + 8 * (k21 * i2)) : Int) : Rat) / 128 := ⟨_, rfl⟩
  obtain ⟨rr2, hr2⟩ : ∃ r : Rat, r = ((m20 : Int) : Rat) / 128 * X0 + ((m21 : Int) : Rat) / 128 * X1 + ((l2 + t2 : Int) : Rat) / 128 * X2 - (((((0 + 8 * (k20 * i0)) + 8 * (k21 * i1)) + 8 * ((2 * k2) * i2)) : Int) : Rat) / 128 := ⟨_, rfl⟩
  have E0 : ((((l0 : Int) : Rat) / 128) + (((t0 : Int) : Rat) / 128)) * X0 + (((m10 : Int) : Rat) / 128) * X1 + (((m20 : Int) : Rat) / 128) * X2 = (((l0 : Int) : Rat) / 128) * (((32 * i0 : Int) : Rat) / 128) + (((m10 : Int) : Rat) / 128) * (((32 * i1 : Int) : Rat) / 128) + (((m20 : Int) : Rat) / 128) * (((32 * i2 : Int) : Rat) / 128) + rr0 := by
    rw [hr0]
    simp only [K0, K10, K20, cst, csm, c8, c2, c0i, c32, c64]
    grind
  have E1 : (((m10 : Int) : Rat) / 128) * X0 + ((((l1 : Int) : Rat) / 128) + (((t1 : Int) : Rat) / 128)) * X1 + (((m21 : Int) : Rat) / 128) * X2 = (((m10 : Int) : Rat) / 128) * (((32 * i0 : Int) : Rat) / 128) + (((l1 : Int) : Rat) / 128) * (((32 * i1 : Int) : Rat) / 128) + (((m21 : Int) : Rat) / 128) * (((32 * i2 : Int) : Rat) / 128) + rr1 := by
    rw [hr1]
    simp only [K1, K10, K21, cst, csm, c8, c2, c0i, c32, c64]
    grind
  have E2 : (((m20 : Int) : Rat) / 128) * X0 + (((m21 : Int) : Rat) / 128) * X1 + ((((l2 : Int) : Rat) / 128) + (((t2 : Int) : Rat) / 128)) * X2 = (((m20 : Int) : Rat) / 128) * (((32 * i0 : Int) : Rat) / 128) + (((m21 : Int) : Rat) / 128) * (((32 * i1 : Int) : Rat) / 128) + (((l2 : Int) : Rat) / 128) * (((32 * i2 : Int) : Rat) / 128) + rr2 := by
    rw [hr2]
    simp only [K2, K20, K21, cst, csm, c8, c2, c0i, c32, c64]
    grind
  have r0z : Rg (0 : Rat) (1 / 100) := ⟨by decide +kernel, by decide +kernel⟩
  have i0z : Rg (0 : Rat) 2 := ⟨by decide +kernel, by decide +kernel⟩
  have z34 : Rg (0 : Rat) (3 / 4) := ⟨by decide +kernel, by decide +kernel⟩
  rw [← hr0] at F0
  rw [← hr1] at F1
  rw [← hr2] at F2
  have F0' : Rg rr0 (1 / 100) := F0.mono (by decide +kernel)
  have F1' : Rg rr1 (1 / 100) := F1.mono (by decide +kernel)
  have F2' : Rg rr2 (1 / 100) := F2.mono (by decide +kernel)
  have I0 : Rg (((32 * i0 : Int) : Rat) / 128) 2 := q_rg (-256) 256 (by omega) (by omega) (by decide +kernel) (by decide +kernel)
  have I1 : Rg (((32 * i1 : Int) : Rat) / 128) 2 := q_rg (-256) 256 (by omega) (by omega) (by decide +kernel) (by decide +kernel)
  have I2 : Rg (((32 * i2 : Int) : Rat) / 128) 2 := q_rg (-256) 256 (by omega) (by omega) (by decide +kernel) (by decide +kernel)
  have L0 : 2 ≤ ((l0 : Int) : Rat) / 128 := by
    have := (q128 (lo := 256) x0 y0).1
    have q : ((256 : Int) : Rat) / 128 = 2 := by decide +kernel
    rw [q] at this; exact this
  have T0 : 0 ≤ (((t0 : Int) : Rat) / 128) ∧ (((t0 : Int) : Rat) / 128) ≤ 1 := by
    have := q128 (v := t0) (lo := 0) (hi := 128) (by omega) (by omega)
    have q : ((0 : Int) : Rat) / 128 = 0 := by decide +kernel
    have q2 : ((128 : Int) : Rat) / 128 = 1 := by decide +kernel
    rw [q, q2] at this; exact this
  have L1 : 2 ≤ ((l1 : Int) : Rat) / 128 := by
    have := (q128 (lo := 256) x1 y1).1
    have q : ((256 : Int) : Rat) / 128 = 2 := by decide +kernel
    rw [q] at this; exact this
  have T1 : 0 ≤ (((t1 : Int) : Rat) / 128) ∧ (((t1 : Int) : Rat) / 128) ≤ 1 := by
    have := q128 (v := t1) (lo := 0) (hi := 128) (by omega) (by omega)
    have q : ((0 : Int) : Rat) / 128 = 0 := by decide +kernel
    have q2 : ((128 : Int) : Rat) / 128 = 1 := by decide +kernel
    rw [q, q2] at this; exact this
  have L2 : 2 ≤ ((l2 : Int) : Rat) / 128 := by
    have := (q128 (lo := 256) x2 y2).1
    have q : ((256 : Int) : Rat) / 128 = 2 := by decide +kernel
    rw [q] at this; exact this
  have T2 : 0 ≤ (((t2 : Int) : Rat) / 128) ∧ (((t2 : Int) : Rat) / 128) ≤ 1 := by
    have := q128 (v := t2) (lo := 0) (hi := 128) (by omega) (by omega)
    have q : ((0 : Int) : Rat) / 128 = 0 := by decide +kernel
    have q2 : ((128 : Int) : Rat) / 128 = 1 := by decide +kernel
    rw [q, q2] at this; exact this
  have M := dmax L0 L1 L2 (of_rg u10 v10) (of_rg u20 v20) (of_rg u21 v21) T0.1 T0.2 T1.1 T1.2 T2.1 T2.2 I0 I1 I2 F0' F1' F2' E0 E1 E2
  obtain ⟨H0, H1, H2⟩ := RES (67 / 20) (by decide +kernel) M.1 M.2.1 M.2.2
  rw [← hr0] at H0
  rw [← hr1] at H1
  rw [← hr2] at H2
  have N := en3_le L0 L1 L2 (of_rg u10 v10) (of_rg u20 v20) (of_rg u21 v21) T0.1 T1.1 T2.1 E0 E1 E2
  have N2 := en3_pos (x0 := X0) (x1 := X1) (x2 := X2) L0 L1 L2 (of_rg u10 v10) (of_rg u20 v20) (of_rg u21 v21)
  have U0 := rmul M.1 H0
  have U1 := rmul M.2.1 H1
  have U2 := rmul M.2.2 H2
  obtain ⟨U0a, U0b⟩ := U0
  obtain ⟨U1a, U1b⟩ := U1
  obtain ⟨U2a, U2b⟩ := U2
  have n0 : qv ((nI 3 rs gs ls qs js vs tk 3).getD 0 0) X0 := by rw [nI_get (by decide)]; exact C0.1
  have n1 : qv ((nI 3 rs gs ls qs js vs tk 3).getD 1 0) X1 := by rw [nI_get (by decide)]; exact C1.1
  have n2 : qv ((nI 3 rs gs ls qs js vs tk 3).getD 2 0) X2 := by rw [nI_get (by decide)]; exact C2.1
  obtain ⟨w0, W0, Y0⟩ := nq_bd ht (by decide) (q0 0 (by decide)) n0 M.1
  obtain ⟨w1, W1, Y1⟩ := nq_bd ht (by decide) (q0 1 (by decide)) n1 M.2.1
  obtain ⟨w2, W2, Y2⟩ := nq_bd ht (by decide) (q0 2 (by decide)) n2 M.2.2
  obtain ⟨A, A1, A2, A3⟩ := enf3 (gs := gs) d0 D10 D20 d10 d1 D21 d20 d21 d2 (by omega) (by omega) (by omega) (by omega) (by omega) (by omega) (by omega) (by omega) (by omega) (by omega) (by omega) (by omega) (by omega) (by omega) (by omega) (by omega) (by omega) (by omega) n0 M.1 n1 M.2.1 n2 M.2.2 (g0 0 (by decide)) W0 Y0 (g0 1 (by decide)) W1 Y1 (g0 2 (by decide)) W2 Y2
  have J0 : qv (js.getD 0 0) (((32 * i0 : Int) : Rat) / 128) := qv_dy j0
  have J1 : qv (js.getD 1 0) (((32 * i1 : Int) : Rat) / 128) := qv_dy j1
  have J2 : qv (js.getD 2 0) (((32 * i2 : Int) : Rat) / 128) := qv_dy j2
  have zq : ∀ i, i < 3 → qv (qs.getD i 0) 0 := fun i hi => by rw [q0 i hi]; exact qv_zero
  have z4 : Rg (0 : Rat) 4 := ⟨by decide +kernel, by decide +kernel⟩
  obtain ⟨B, B1, B2, B3⟩ := enf3 (gs := gs) d0 D10 D20 d10 d1 D21 d20 d21 d2 (by omega) (by omega) (by omega) (by omega) (by omega) (by omega) (by omega) (by omega) (by omega) (by omega) (by omega) (by omega) (by omega) (by omega) (by omega) (by omega) (by omega) (by omega) J0 (I0.mono (by decide +kernel)) J1 (I1.mono (by decide +kernel)) J2 (I2.mono (by decide +kernel)) (g0 0 (by decide)) (zq 0 (by decide)) z4 (g0 1 (by decide)) (zq 1 (by decide)) z4 (g0 2 (by decide)) (zq 2 (by decide)) z4
  have BB : Rg B 128 := enb3 B1 B2 B3 I0 I1 I2 x0 y0 x1 y1 x2 y2 u10 v10 u20 v20 u21 v21
  obtain ⟨B4, B5⟩ := BB
  obtain ⟨V, V1, V2, V3⟩ := qv_add (pw2_mul 1 (J := 2) rfl p128) (by decide) B1 qv_c1 (by grind) (by grind)
  refine ⟨qv_le A1 V1 ?_, qv_gt A1 qv_c2 ?_⟩
  · generalize en3 (((l0 : Int) : Rat) / 128) (((m10 : Int) : Rat) / 128) (((m20 : Int) : Rat) / 128) (((l1 : Int) : Rat) / 128) (((m21 : Int) : Rat) / 128) (((l2 : Int) : Rat) / 128) X0 X1 X2 = ex at *
    generalize en3 (((l0 : Int) : Rat) / 128) (((m10 : Int) : Rat) / 128) (((m20 : Int) : Rat) / 128) (((l1 : Int) : Rat) / 128) (((m21 : Int) : Rat) / 128) (((l2 : Int) : Rat) / 128) (((32 * i0 : Int) : Rat) / 128) (((32 * i1 : Int) : Rat) / 128) (((32 * i2 : Int) : Rat) / 128) = ei at *
    clear E0 E1 E2 N2 B4 B5
    grind
  · generalize en3 (((l0 : Int) : Rat) / 128) (((m10 : Int) : Rat) / 128) (((m20 : Int) : Rat) / 128) (((l1 : Int) : Rat) / 128) (((m21 : Int) : Rat) / 128) (((l2 : Int) : Rat) / 128) X0 X1 X2 = ex at *
    clear E0 E1 E2 N B2 B3
    grind

end Go.Proofs.Ytpoigbpaeniikaa


namespace Go.Proofs.Ytpoigbpaeniikaa
open Go.RowKit

attribute [local irreducible] D9 D7 UU WW W9
def rq (k : Nat) : Nat := fop .quo .f32 (FloatKind.f32.nearest (1 + (k : Int))) 1082130432
def gq (k : Nat) : Nat := fop .quo .f32 (FloatKind.f32.nearest (k : Int)) 1073741824
def dq (k : Nat) : Nat := fop .quo .f32 (FloatKind.f32.nearest (4 + (k : Int))) 1073741824
def oq (k : Nat) : Nat := fop .quo .f32 (FloatKind.f32.nearest ((k : Int) - 3)) 1082130432
theorem tf_r : ∀ k : Fin 8, dyb (rq k) (32 * (1 + (k.val : Int))) = true := by decide +kernel
theorem tf_g : ∀ k : Fin 9, dyb (gq k) (64 * (k.val : Int)) = true := by decide +kernel
theorem tf_d : ∀ k : Fin 8, dyb (dq k) (64 * (4 + (k.val : Int))) = true := by decide +kernel
theorem tf_o : ∀ k : Fin 7, dyb (oq k) (32 * ((k.val : Int) - 3)) = true := by decide +kernel
def R8w (y : Nat) : Prop := ∃ x : Nat, x < 8 ∧ dy .f32 y (32 * (1 + (x : Int)))
def G9w (y : Nat) : Prop := ∃ x : Nat, x < 9 ∧ dy .f32 y (64 * (x : Int))
def D8w (y : Nat) : Prop := ∃ x : Nat, x < 8 ∧ dy .f32 y (64 * (4 + (x : Int)))
def O7w (y : Nat) : Prop := ∃ x : Nat, x < 7 ∧ dy .f32 y (32 * ((x : Int) - 3))
theorem rq_is {k : Nat} (h : k < 8) : R8w (rq k) := ⟨k, h, dyb_is (tf_r ⟨k, h⟩)⟩
theorem gq_is {k : Nat} (h : k < 9) : G9w (gq k) := ⟨k, h, dyb_is (tf_g ⟨k, h⟩)⟩
theorem dq_is {k : Nat} (h : k < 8) : D8w (dq k) := ⟨k, h, dyb_is (tf_d ⟨k, h⟩)⟩
theorem oq_is {k : Nat} (h : k < 7) : O7w (oq k) := ⟨k, h, dyb_is (tf_o ⟨k, h⟩)⟩
/-- The rows ahead of i are drawn. -/
structure ZI (n : Nat) (zs : List Nat) (i : Nat) : Prop where
  len : zs.length = n * n
  dg : ∀ a, a < i → D8w (zs.getD (a * n + a) 0)
  od : ∀ a b, b < a → a < i → O7w (zs.getD (a * n + b) 0) ∧ zs.getD (b * n + a) 0 = zs.getD (a * n + b) 0
structure ZJ (n : Nat) (zs : List Nat) (i j : Nat) : Prop where
  len : zs.length = n * n
  dg : ∀ a, a < i + 1 → D8w (zs.getD (a * n + a) 0)
  od : ∀ a b, b < a → (a < i ∨ a = i ∧ b < j) → O7w (zs.getD (a * n + b) 0) ∧ zs.getD (b * n + a) 0 = zs.getD (a * n + b) 0
theorem tf_inj {n a b c d : Nat} (hb : b < n) (hd : d < n) (h : a * n + b = c * n + d) : a = c ∧ b = d := by
  have h1 : (a * n + b) / n = a := by rw [Nat.add_comm, Nat.add_mul_div_right _ _ (by omega), Nat.div_eq_of_lt hb, Nat.zero_add]
  have h2 : (c * n + d) / n = c := by rw [Nat.add_comm, Nat.add_mul_div_right _ _ (by omega), Nat.div_eq_of_lt hd, Nat.zero_add]
  have e : a = c := by rw [← h1, ← h2, h]
  subst e
  exact ⟨rfl, by omega⟩
theorem ZI.zero (n : Nat) : ZI n (List.replicate (n * n) 0) 0 := ⟨List.length_replicate, fun _ h => absurd h (Nat.not_lt_zero _), fun _ _ _ h => absurd h (Nat.not_lt_zero _)⟩
theorem tf_set {n a b c d : Nat} {zs : List Nat} {v : Nat} (hl : zs.length = n * n) (ha : a < n) (hb : b < n) (hd : d < n) : (zs.set (a * n + b) v).getD (c * n + d) 0 = if c = a ∧ d = b then v else zs.getD (c * n + d) 0 := by
  rw [csetD (by rw [hl]; exact idx_in ha hb)]
  by_cases e : c = a ∧ d = b
  · rw [if_pos e, if_pos (by rw [e.1, e.2])]
  · rw [if_neg e, if_neg (fun h => e (tf_inj hd hb h))]
theorem ZI.diag {n i v : Nat} {zs : List Nat} (h : ZI n zs i) (hi : i < n) (hv : D8w v) : ZJ n (zs.set (i * n + i) v) i 0 := by
  refine ⟨by rw [List.length_set]; exact h.len, fun a ha => ?_, fun a b hb ha => ?_⟩
  · rw [tf_set h.len hi hi (by omega)]
    by_cases e : a = i
    · rw [if_pos ⟨e, e⟩]; exact hv
    · rw [if_neg (fun g => e g.1)]; exact h.dg a (by omega)
  · have ha' : a < i := by omega
    rw [tf_set h.len hi hi (by omega), tf_set h.len hi hi (by omega), if_neg (by omega), if_neg (by omega)]
    exact h.od a b hb ha'
theorem ZJ.step {n i j v : Nat} {zs : List Nat} (h : ZJ n zs i j) (hi : i < n) (hj : j < i) (hv : O7w v) : ZJ n ((zs.set (i * n + j) v).set (j * n + i) v) i (j + 1) := by
  have hl : (zs.set (i * n + j) v).length = n * n := by rw [List.length_set]; exact h.len
  refine ⟨by rw [List.length_set]; exact hl, fun a ha => ?_, fun a b hb ha => ?_⟩
  · rw [tf_set hl (by omega) hi (by omega), tf_set h.len hi (by omega) (by omega), if_neg (by omega), if_neg (by omega)]
    exact h.dg a ha
  · have hn : a < n ∧ b < n := by omega
    rw [tf_set hl (by omega) hi hn.2, tf_set h.len hi (by omega) hn.2, tf_set hl (by omega) hi hn.1, tf_set h.len hi (by omega) hn.1]
    by_cases e : a = i ∧ b = j
    · obtain ⟨rfl, rfl⟩ := e
      rw [if_neg (by omega), if_pos ⟨rfl, rfl⟩, if_pos ⟨rfl, rfl⟩]
      exact ⟨hv, rfl⟩
    · rw [if_neg (by omega), if_neg (by omega), if_neg (by omega), if_neg (by omega)]
      exact h.od a b hb (by omega)
theorem ZJ.done {n i j : Nat} {zs : List Nat} (h : ZJ n zs i j) (hj : i ≤ j) : ZI n zs (i + 1) := ⟨h.len, h.dg, fun a b hb ha => h.od a b hb (by omega)⟩
theorem tf_upd {xs : List Nat} {i v : Nat} (h : ∀ a, a < i → R8w (xs.getD a 0)) (hi : i < xs.length) (hv : R8w v) : ∀ a, a < i + 1 → R8w ((xs.set i v).getD a 0) := fun a ha => by
  rw [csetD hi]
  by_cases e : a = i
  · rw [if_pos e]; exact hv
  · rw [if_neg e]; exact h a (by omega)
theorem tf_zero {xs : List Nat} {i : Nat} (h : ∀ a, a < i → xs.getD a 0 = 0) (hi : i < xs.length) : ∀ a, a < i + 1 → (xs.set i 0).getD a 0 = 0 := fun a ha => by
  rw [csetD hi]
  by_cases e : a = i
  · rw [if_pos e]
  · rw [if_neg e]; exact h a (by omega)
/-- All but the resists. -/
structure CE (n : Nat) (gs ls : List Nat) : Prop where
  hg : gs.length = n
  n1 : 1 ≤ n
  n3 : n ≤ 3
  gd : ∀ y ∈ gs, G9w y
  z : ZI n ls n
theorem CE.cd {n : Nat} {rs gs ls : List Nat} (h : CE n gs ls) (hr : rs.length = n) (hd : ∀ i, i < n → R8w (rs.getD i 0)) : CD n rs gs ls :=
  ⟨hr, h.hg, h.z.len, h.n1, h.n3, hd, fun i hi => h.gd _ (getD_mem (by rw [h.hg]; exact hi)), h.z.dg, fun i j hj hi => h.z.od i j hj hi⟩
theorem CD.gaps {n : Nat} {rs gs zs ls : List Nat} (h : CD n rs gs ls) (hl : zs.length = n) (hz : ∀ i, i < n → zs.getD i 0 = 0) : CD n rs zs ls :=
  ⟨h.hr, hl, h.hl, h.n1, h.n3, h.rd, fun i hi => ⟨0, by decide, by rw [hz i hi]; exact dy_z⟩, h.dd, h.od⟩
section
variable {n : Nat} {rs gs ls vs qs js : List Nat}
theorem CD.tick (h : CD n rs gs ls) {s tk : Nat} {S : Rat} (hS : pw2 s S) (hs : s ≤ 50) (hS2 : 2 ≤ S) (ht : dy .f32 tk 32) (hv : Bd n vs 2) (hq : Bd n qs S) (hj : Bd n js S) :
    SOk n (mA n rs ls tk) (bV n gs ls qs js vs tk) ∧ Bd n (nI n rs gs ls qs js vs tk n) (64 * S) ∧ Bd n (nQ n rs gs ls qs js vs tk n) (64 * S) := by
  have h1 := h.n1
  have h3 := h.n3
  rcases (by omega : n = 1 ∨ n = 2 ∨ n = 3) with rfl | rfl | rfl
  · exact h.tick1 hS hs hS2 ht hv hq hj
  · exact h.tick2 hS hs hS2 ht hv hq hj
  · exact h.tick3 hS hs hS2 ht hv hq hj
theorem CD.energy (h : CD n rs gs ls) {tk : Nat} (ht : dy .f32 tk 64) (g0 : ∀ i, i < n → gs.getD i 0 = 0) (v0 : ∀ i, i < n → vs.getD i 0 = 0) (q0 : ∀ i, i < n → qs.getD i 0 = 0) (hj : ∀ i, i < n → ∃ u : Int, u.natAbs ≤ 8 ∧ dy .f32 (js.getD i 0) (32 * u)) :
    SOk n (mA n rs ls tk) (bV n gs ls qs js vs tk) ∧ fcmp .leq .f32 (eG gs (nQ n rs gs ls qs js vs tk n) (eO n ls (nI n rs gs ls qs js vs tk n) n) n) (fop .add .f32 (eG gs qs (eO n ls js n) n) 981668463) = true ∧ fcmp .gtr .f32 (eG gs (nQ n rs gs ls qs js vs tk n) (eO n ls (nI n rs gs ls qs js vs tk n) n) n) 3129152111 = true := by
  have h1 := h.n1
  have h3 := h.n3
  rcases (by omega : n = 1 ∨ n = 2 ∨ n = 3) with rfl | rfl | rfl
  · exact h.energy1 ht g0 v0 q0 hj
  · exact h.energy2 ht g0 v0 q0 hj
  · exact h.energy3 ht g0 v0 q0 hj
theorem tf_q {xs : List Nat} (hq : ∀ y ∈ xs, Q17 y) (hl : xs.length = n) : ∀ i, i < n → ∃ u : Int, u.natAbs ≤ 8 ∧ dy .f32 (xs.getD i 0) (32 * u) := fun i hi => by
  obtain ⟨v, h1, h2, _⟩ := hQ (hq _ (getD_mem (xs := xs) (k := i) (by omega)))
  exact ⟨v, h1, h2⟩
theorem tf_bd {xs : List Nat} (hq : ∀ y ∈ xs, Q17 y) (hl : xs.length = n) : Bd n xs 2 := fun i hi => by
  obtain ⟨v, h1, h2⟩ := tf_q hq hl i hi
  exact ⟨_, qv_dy h2, q_rg (-256) 256 (by omega) (by omega) (by decide +kernel) (by decide +kernel)⟩
theorem tf_z (n : Nat) : Bd n (List.replicate n 0) 2 := fun i hi => ⟨0, by simp [List.getD, hi]; exact qv_zero, by decide +kernel, by decide +kernel⟩
theorem tf_z0 {n i : Nat} : (List.replicate n 0).getD i 0 = 0 := by
  simp only [List.getD, List.getElem?_replicate]
  split <;> rfl
/-- Up to four ticks of a quarter. -/
theorem CD.runs (h : CD n rs gs ls) (hv : Bd n vs 2) (hj : Bd n js 2) : ∀ k, k ≤ 4 → ∃ (s : Nat) (S : Rat), pw2 s S ∧ s ≤ 1 + 6 * k ∧ 2 ≤ S ∧ Bd n (tks n rs gs ls vs 1048576000 (List.replicate n 0, js) k).1 S ∧ Bd n (tks n rs gs ls vs 1048576000 (List.replicate n 0, js) k).2 S
  | 0, _ => ⟨1, 2, rfl, by decide, by decide +kernel, tf_z n, hj⟩
  | k + 1, hk => by
    obtain ⟨s, S, p, b, g, q1, q2⟩ := CD.runs h hv hj k (by omega)
    obtain ⟨_, r1, r2⟩ := h.tick p (by omega) g (dyb_is (x := 1048576000) (v := 32) (by decide +kernel)) hv q1 q2
    refine ⟨s + 6, 64 * S, pw2_mul 6 (J := 64) rfl p, by omega, by grind, ?_, ?_⟩
    · rw [tks_succ]; exact r2
    · rw [tks_succ]; exact r1
theorem CD.sok (h : CD n rs gs ls) (hv : Bd n vs 2) (hj : Bd n js 2) {k : Nat} (hk : k ≤ 4) : SOk n (mA n rs ls 1048576000) (bV n gs ls (tks n rs gs ls vs 1048576000 (List.replicate n 0, js) k).1 (tks n rs gs ls vs 1048576000 (List.replicate n 0, js) k).2 vs 1048576000) := by
  obtain ⟨s, S, p, b, g, q1, q2⟩ := CD.runs h hv hj k hk
  exact (h.tick p (by omega) g (dyb_is (x := 1048576000) (v := 32) (by decide +kernel)) hv q1 q2).1
theorem CD.cans (h : CD n rs gs ls) (hv : Bd n vs 2) (hj : Bd n js 2) (hjl : js.length = n) {k : Nat} (hk : k ≤ 4) : (∀ x ∈ (tks n rs gs ls vs 1048576000 (List.replicate n 0, js) k).1, Can .f32 x) ∧ (∀ x ∈ (tks n rs gs ls vs 1048576000 (List.replicate n 0, js) k).2, Can .f32 x) := by
  obtain ⟨s, S, p, b, g, q1, q2⟩ := CD.runs h hv hj k hk
  have hl := tks_len (n := n) (rs := rs) (gs := gs) (ls := ls) (vs := vs) (tk := 1048576000) (s := (List.replicate n 0, js)) List.length_replicate hjl k
  have key : ∀ xs : List Nat, xs.length = n → Bd n xs S → ∀ x ∈ xs, Can .f32 x := fun xs hl hb x hx => by
    obtain ⟨i, hi, rfl⟩ := List.getElem_of_mem hx
    obtain ⟨v, h1, _⟩ := hb i (by omega)
    simp [List.getD, hi] at h1
    exact qv_can h1
  exact ⟨key _ hl.1 q1, key _ hl.2 q2⟩
end
end Go.Proofs.Ytpoigbpaeniikaa


namespace Go.Proofs.Ytpoigbpaeniikaa
open Go.RowKit
set_option linter.unusedVariables false
set_option linter.unusedSimpArgs false
set_option maxRecDepth 20000

theorem zero26_Ti : (Try.prog.info? 26).bind (·.zero) = some (Value.agg #[Value.slice none 0 0, Value.slice none 0 0, Value.slice none 0 0]) := by kernel_rfl
theorem known16_Ti : Known Try.prog 16 := Known.mk' Try.func16 (by kernel_rfl)
theorem elt34_Ti : Elt Try.prog 34 [Value.float .f32 0] 4 := Elt.mk' (by kernel_rfl) (by decide)
theorem lay26_Ti : Lay Try.prog 26 [Value.slice none 0 0, Value.slice none 0 0, Value.slice none 0 0] [(0, 1), (1, 1), (2, 1)] := Lay.mk' (by kernel_rfl) (by kernel_rfl)
theorem sz26_Ti : (Try.prog.info? 26).map (·.size) = some 3 := by kernel_rfl
theorem mixed_Ti : Try.prog.follows .mixedOrders = true := by kernel_rfl
theorem sz24_Ti : (Try.prog.info? 24).map (·.size) = some 1 := by kernel_rfl
theorem fb24_Ti : flatB Try.prog 24 = true := by kernel_rfl
theorem sz34_Ti : (Try.prog.info? 34).map (·.size) = some 1 := by kernel_rfl
theorem known14_Ti : Known Try.prog 14 := Known.mk' Try.func14 (by kernel_rfl)
theorem known15_Ti : Known Try.prog 15 := Known.mk' Try.func15 (by kernel_rfl)
attribute [local irreducible] fop fcmp fconv fneg fabs List.getD EF XF BS BF solC nI nQ sI eT eI eO eG tks bW bV mA sqL rtL fst0 qw hqw w2w g2w uw

theorem c_dcircT {w0 : World} {a : Option Addr} {c q n sd : Nat} {bs : List Int} (hA : Cl w0 a (bl bs)) (hb : Bytes bs) (hl : bs.length ≤ 2000000) (hn : n ≤ 99000) (hsd : sd < 18446744073709551616) : Mut Try.prog 15 [.pointer (some (adr (some ⟨q, 0, none⟩) 0))] w0 [⟨some ⟨q, 0, none⟩, [.slice a bs.length c, .int .i64 ((n : Nat) : Int), .int .u64 ((sd : Nat) : Int)], 3, 56⟩] (fun x : {x : (((Option Addr × Nat) × List Nat) × ((Option Addr × Nat) × List Nat) × ((Option Addr × Nat) × List Nat)) × Nat × Nat // (x.1.1.2.length = x.1.2.1.2.length ∧ CE x.1.1.2.length x.1.2.1.2 x.1.2.2.2) ∧ x.2.2 < 18446744073709551616 ∧ n ≤ x.2.1 ∧ x.2.1 ≤ n + 60} => .agg #[.slice x.1.1.1.1.1 x.1.1.1.2.length x.1.1.1.1.2, .slice x.1.1.2.1.1.1 x.1.1.2.1.2.length x.1.1.2.1.1.2, .slice x.1.1.2.2.1.1 x.1.1.2.2.2.length x.1.1.2.2.1.2]) (fun x => [⟨some ⟨q, 0, none⟩, [.slice a bs.length c, .int .i64 ((x.1.2.1 : Nat) : Int), .int .u64 ((x.1.2.2 : Nat) : Int)], 3, 56⟩, ⟨x.1.1.1.1.1, fl x.1.1.1.2, x.1.1.1.1.2 * 1, 34⟩, ⟨x.1.1.2.1.1.1, fl x.1.1.2.1.2, x.1.1.2.1.1.2 * 1, 34⟩, ⟨x.1.1.2.2.1.1, fl x.1.1.2.2.2, x.1.1.2.2.1.2 * 1, 34⟩]) := by
  refine Mut.enter Try.func15 rfl Try.ntmps15 (Nat.le_of_ble_eq_true rfl) ?_
  intro F
  haveI hne9 : Nonempty {x : Nat × Nat // x.1 < 9 ∧ x.2 < 18446744073709551616} := ⟨⟨(0, 0), by decide, by decide⟩⟩
  haveI hne8 : Nonempty {x : Nat × Nat // x.1 < 8 ∧ x.2 < 18446744073709551616} := ⟨⟨(0, 0), by decide, by decide⟩⟩
  haveI hne7 : Nonempty {x : Nat × Nat // x.1 < 7 ∧ x.2 < 18446744073709551616} := ⟨⟨(0, 0), by decide, by decide⟩⟩
  refine V.seq ?_
  refine V.region ?_
  refine VL.new1 (.inl rfl) rfl (by decide) (yn_alloc rfl zero26_Ti rfl) ?_
  intro b2
  refine VL.nil ?_
  refine VE.then_wp ?_
  refine V.seq ?_
  refine V.region ?_
  refine VL.r (.inl rfl) rfl (by decide) (yr_move rfl rfl) ?_
  refine VL.c (.inl rfl) rfl (by decide) (yc_callf rfl known16_Ti (.cons rfl (.cons rfl .nil)) (by apply Pick.one; repeat (first | exact Rem.here | apply Rem.there | apply Rem.thereS)) (c_pick (m := 3) (n := n) hA hb hl (by (try dsimp only); omega) (by (try dsimp only); omega) (by decide) (by decide))) ?_
  rintro ⟨⟨x9, s9⟩, hx9, hs9⟩
  dsimp only at hx9 hs9
  refine VL.r (.inl rfl) rfl (by decide) (yr_addN (1 + x9) rfl rfl rfl (by push_cast; rfl) (by omega)) ?_
  refine VL.r (.inl rfl) rfl (by decide) (yr_assign rfl rfl) ?_
  refine VL.nil ?_
  refine VE.then_wp ?_
  refine V.seq ?_
  refine V.region ?_
  refine VL.r (.inl rfl) rfl (by decide) (yr_move rfl rfl) ?_
  refine VL.r (.inl rfl) rfl (by decide) (yr_move rfl rfl) ?_
  refine VL.r (.inl rfl) rfl (by decide) (yr_mulN (1 + x9) (1 + x9) rfl rfl rfl (by omega) (by omega) (Nat.le_trans (by first | exact q0 | (have := Nat.mul_le_mul (show xs.length ≤ 3 by omega) (show 1 + x9 ≤ 3 by omega); exact this) | (have := Nat.mul_le_mul (show j ≤ 3 by omega) (show 1 + x9 ≤ 3 by omega); exact this) | (have := Nat.mul_le_mul (show 1 + x9 ≤ 3 by omega) (show 1 + x9 ≤ 3 by omega); exact this)) (by decide))) ?_
  refine VL.new1 (.inl rfl) rfl (by decide) (yn_makeSlicez 1 rfl rfl Try.underlying24 elt34_Ti rfl rfl rfl (by have := Nat.mul_le_mul (show 1 + x9 ≤ 3 by omega) (show 1 + x9 ≤ 3 by omega); omega) (by have := Nat.mul_le_mul (show 1 + x9 ≤ 3 by omega) (show 1 + x9 ≤ 3 by omega); omega)) ?_
  intro b14
  refine VL.r (.inl rfl) rfl (by decide) (yr_build rfl lay26_Ti rfl (.cons rfl .nil) (by first | (simp; done) | (simp [vv]; done) | (simp [cn, cn1, cn0]; done)) rfl) ?_
  refine VL.new1 (.inl rfl) rfl (by decide) (yn_alloc rfl zero26_Ti rfl) ?_
  intro b4
  refine VL.s (.inl rfl) rfl (yc_store rfl sz26_Ti rfl rfl (by repeat (first | exact UpdF.here | apply UpdF.there | apply UpdF.thereS)) (.inr ⟨rfl, rfl⟩) rfl (by first | exact Nat.le_of_ble_eq_true rfl | simp) (by decide) rfl) ?_
  rintro ⟨⟩
  refine VL.nil ?_
  refine VE.then_wp ?_
  refine V.seq ?_
  refine V.seq ?_
  refine V.region ?_
  refine VL.r (.inl rfl) rfl (by decide) (yr_assign (u := .int .i64 0) rfl rfl) ?_
  refine VL.nil ?_
  refine VE.then_wp ?_
  refine V.block ?_
  refine V.loopc (G := (List Nat) × (Option Addr) × Nat × (List Nat) × (Option Addr) × Nat × (List Nat) × Nat × Nat) [(0, _), (2, _), (3, _), (4, _)] (fun ⟨xs, a1, c1, ys, a2, c2, zs, nn, sd1⟩ => xs.length ≤ 1 + x9 ∧ ys.length = xs.length ∧ ZI (1 + x9) zs xs.length ∧ (∀ y ∈ ys, G9w y) ∧ (n ≤ nn ∧ nn ≤ n + 1 + 9 * xs.length) ∧ sd1 < 18446744073709551616) (fun ⟨xs, a1, c1, ys, a2, c2, zs, nn, sd1⟩ => (⟨some ⟨b4, 0, none⟩, [.slice a1 xs.length c1, .slice a2 ys.length c2, .slice (some ⟨b14, 0, none⟩) ((1 + x9) * (1 + x9)) ((1 + x9) * (1 + x9))], 3, 26⟩ :: ⟨a1, fl xs, c1 * 1, 34⟩ :: ⟨a2, fl ys, c2 * 1, 34⟩ :: ⟨some ⟨b14, 0, none⟩, fl zs, ((1 + x9) * (1 + x9)) * 1, 34⟩ :: ⟨some ⟨q, 0, none⟩, [.slice a bs.length c, .int .i64 ((nn : Nat) : Int), .int .u64 ((sd1 : Nat) : Int)], 3, 56⟩ :: ⟨some ⟨b2, 0, none⟩, [.slice none 0 0, .slice none 0 0, .slice none 0 0], 3, 26⟩ :: F)) (fun ⟨xs, a1, c1, ys, a2, c2, zs, nn, sd1⟩ => [(5, .int .i64 (xs.length : Int))]) (fun ⟨xs, a1, c1, ys, a2, c2, zs, nn, sd1⟩ => 1 + x9 - xs.length) ([], none, 0, [], none, 0, List.replicate ((1 + x9) * (1 + x9)) 0, n + 1, s9) (.cons rfl (.cons rfl (.cons rfl (.cons rfl .nil)))) (.cons rfl .nil) ?_ ?_ ?_
  · exact (fun w hw => by
      have h9 := (hw.nilU 34).nilU 34
      dsimp only
      rw [fl_zeros] at h9
      exact h9.pick (by apply Pick.cons1; (· repeat (first | exact Rem.here | exact Rem.all | exact Rem.hereS | apply Rem.there | apply Rem.thereS)); apply Pick.cons1; (· repeat (first | exact Rem.here | exact Rem.all | exact Rem.hereS | apply Rem.there | apply Rem.thereS)); apply Pick.cons1; (· repeat (first | exact Rem.here | exact Rem.all | exact Rem.hereS | apply Rem.there | apply Rem.thereS)); apply Pick.cons1; (· repeat (first | exact Rem.here | exact Rem.all | exact Rem.hereS | apply Rem.there | apply Rem.thereS)); apply Pick.cons1; (· repeat (first | exact Rem.here | exact Rem.all | exact Rem.hereS | apply Rem.there | apply Rem.thereS)); apply Pick.cons1; (· repeat (first | exact Rem.here | exact Rem.all | exact Rem.hereS | apply Rem.there | apply Rem.thereS)); apply Pick.last; repeat (first | exact Rem.here | exact Rem.all | exact Rem.hereS | apply Rem.there | apply Rem.thereS)))
  · exact (by exact ⟨Nat.zero_le _, rfl, ZI.zero _, fun y h => (by cases h), ⟨by omega, by (try dsimp only); simp only [List.length_nil]; omega⟩, hs9⟩)
  rintro ⟨xs, a1, c1, ys, a2, c2, zs, nn, sd1⟩ ⟨hl9, hy9, hzi9, hgy9, hn9, hd9⟩
  show V _ _ _ (⟨some ⟨b4, 0, none⟩, [.slice a1 xs.length c1, .slice a2 ys.length c2, .slice (some ⟨b14, 0, none⟩) ((1 + x9) * (1 + x9)) ((1 + x9) * (1 + x9))], 3, 26⟩ :: ⟨a1, fl xs, c1 * 1, 34⟩ :: ⟨a2, fl ys, c2 * 1, 34⟩ :: ⟨some ⟨b14, 0, none⟩, fl zs, ((1 + x9) * (1 + x9)) * 1, 34⟩ :: ⟨some ⟨q, 0, none⟩, [.slice a bs.length c, .int .i64 ((nn : Nat) : Int), .int .u64 ((sd1 : Nat) : Int)], 3, 56⟩ :: ⟨some ⟨b2, 0, none⟩, [.slice none 0 0, .slice none 0 0, .slice none 0 0], 3, 26⟩ :: F) ([(5, .int .i64 (xs.length : Int))] ++ [(0, _), (2, _), (3, _), (4, _)]) _ _
  have hz9 := hzi9.len
  refine V.seq ?_
  refine V.seq ?_
  refine V.region ?_
  refine VL.r (.inl rfl) rfl (by decide) (yr_move rfl rfl) ?_
  refine VL.r (.inl rfl) rfl (by decide) (yr_move rfl rfl) ?_
  refine VL.r (.inl rfl) rfl (by decide) (yr_icmp rfl (.inr (.inr (.inl rfl))) rfl rfl) ?_
  refine VL.nil ?_
  refine VE.then_wp ?_
  refine V.cond rfl (fun h1 => ?_) (fun h1 => ?_)
  · skip
    replace h1 := ic_lss h1
    have hi9 : xs.length < 1 + x9 := by omega
    have q1 := idx_in hi9 hi9
    have q0 := Nat.mul_le_mul (show 1 + x9 ≤ 3 by omega) (show 1 + x9 ≤ 3 by omega)
    refine V.skip ?_
    refine VE.then_wp ?_
    refine V.seq ?_
    refine V.block ?_
    refine V.seq ?_
    refine Dr.V.drawR [(0, 5), (1, 5), (2, 5), (3, 3), (4, 5), (5, 5), (6, 1), (7, 3), (8, 5), (9, 4)] [] [⟨some ⟨q, 0, none⟩, [.slice a bs.length c, .int .i64 ((nn : Nat) : Int), .int .u64 ((sd1 : Nat) : Int)], 3, 56⟩, ⟨a1, fl xs, c1 * 1, 34⟩] _ mixed_Ti (by kernel_rfl) (fun w hw => Hp.pickS hw (by apply Pick.e2; all_goals (repeat (first | exact Rem.here | exact Rem.all | exact Rem.hereS | apply Rem.there | apply Rem.thereS)))) ?_
    refine Dr.SW.r rfl (.inl rfl) rfl (by decide) (yr_fieldAddr rfl Try.underlying26 rfl rfl sz24_Ti (by decide) rfl) ?_
    refine Dr.SW.p rfl (.inl rfl) rfl (by decide) (yq_load rfl fb24_Ti rfl (by first | exact Sees.root (by assumption) | exact Sees.own (by (try simp only [List.append_assoc, List.cons_append, List.nil_append]); repeat (first | exact List.mem_cons_self | exact List.mem_append_left _ (by assumption) | apply List.mem_cons_of_mem | apply List.mem_append_right)) | exact Sees.root (hR _ (by omega)) | exact Sees.own (RowsIn.mem (by (try simp only [List.append_assoc, List.cons_append, List.nil_append]); repeat (first | exact RowsIn.here | exact RowsIn.last | apply RowsIn.there | apply RowsIn.thereS)) _ (by omega)) | exact Sees.own (WRowsIn.mem (by (try simp only [List.append_assoc, List.cons_append, List.nil_append]); repeat (first | exact WRowsIn.here | exact WRowsIn.last | apply WRowsIn.there | apply WRowsIn.thereS)) _ (by omega))) rfl) ?_
    refine Dr.SW.r rfl (.inl rfl) rfl (by decide) (yr_move rfl rfl) ?_
    refine Dr.SW.c rfl (.inl rfl) rfl (by decide) (yc_callfR rfl known16_Ti (.cons rfl (.cons rfl .nil)) (by apply Pick.one; repeat (first | exact Rem.here | exact Rem.all | exact Rem.hereS | apply Rem.there | apply Rem.thereS)) (c_pick (m := 9) (n := nn) hA hb hl (by (try dsimp only); omega) (by (try dsimp only); omega) (by decide) (by decide))) ?_
    rintro ⟨⟨x24, s24⟩, hx24, hs24⟩
    dsimp only at hx24 hs24
    refine Dr.SW.r rfl (.inl rfl) rfl (by decide) (yr_ofInt rfl Try.underlying2 Try.underlying34 rfl) ?_
    refine Dr.SW.r rfl (.inl rfl) rfl (by decide) (yr_float (b := 1082130432) rfl (.inr (.inr (.inr rfl))) rfl rfl) ?_
    refine Dr.SW.new1 rfl (.inl rfl) rfl (by decide) (yn_lit rfl Try.underlying24 elt34_Ti rfl (by decide) (.cons rfl .nil) (by first | (simp; done) | (simp [cn, cn1, cn0]; done)) rfl rfl rfl) ?_
    intro b27
    refine Dr.SW.c rfl (.inl rfl) rfl (by decide) (yc_appendz 1 rfl rfl Try.underlying24 elt34_Ti rfl rfl (Dr.UpdF.app (by repeat (first | exact UpdF.here | apply UpdF.there | apply UpdF.thereS))) (by first | exact Sees.root (by assumption) | exact Sees.own (by (try simp only [List.append_assoc, List.cons_append, List.nil_append]); repeat (first | exact List.mem_cons_self | exact List.mem_append_left _ (by assumption) | apply List.mem_cons_of_mem | apply List.mem_append_right)) | exact Sees.root (hR _ (by omega)) | exact Sees.own (RowsIn.mem (by (try simp only [List.append_assoc, List.cons_append, List.nil_append]); repeat (first | exact RowsIn.here | exact RowsIn.last | apply RowsIn.there | apply RowsIn.thereS)) _ (by omega)) | exact Sees.own (WRowsIn.mem (by (try simp only [List.append_assoc, List.cons_append, List.nil_append]); repeat (first | exact WRowsIn.here | exact WRowsIn.last | apply WRowsIn.there | apply WRowsIn.thereS)) _ (by omega))) rfl (by rw [fl_length, Nat.mul_one]) rfl (by first | rfl | exact fl_scal _) rfl (by omega) (by omega)) ?_
    rintro ⟨a28, c28⟩
    refine Dr.SW.r rfl (.inl rfl) rfl (by decide) (yr_fieldAddr rfl Try.underlying26 rfl rfl sz24_Ti (by decide) rfl) ?_
    refine Dr.SW.t rfl (.inl rfl) rfl (yc_store rfl sz24_Ti rfl rfl (by repeat (first | exact UpdF.here | apply UpdF.there | apply UpdF.thereS)) (.inl ⟨rfl, rfl⟩) rfl (by first | exact Nat.le_of_ble_eq_true rfl | simp) (by decide) rfl) ?_
    rintro ⟨⟩
    refine Dr.SW.done ?_
    refine Dr.eqO (by simp only [List.append_nil, List.append_assoc, List.cons_append, List.nil_append] <;> rfl) ?_
    refine VE.then_wp ?_
    refine V.seq ?_
    refine Dr.V.drawR [(0, 5), (1, 5), (2, 5), (3, 3), (4, 5), (5, 5), (6, 1), (7, 3), (8, 5), (9, 4)] [] [⟨some ⟨q, 0, none⟩, [.slice a bs.length c, .int .i64 ((nn + 1 : Nat) : Int), .int .u64 ((s24 : Nat) : Int)], 3, 56⟩, ⟨a2, fl ys, c2 * 1, 34⟩] _ mixed_Ti (by kernel_rfl) (fun w hw => Hp.pickS hw (by apply Pick.e2; all_goals (repeat (first | exact Rem.here | exact Rem.all | exact Rem.hereS | apply Rem.there | apply Rem.thereS)))) ?_
    refine Dr.SW.r rfl (.inl rfl) rfl (by decide) (yr_fieldAddr rfl Try.underlying26 rfl rfl sz24_Ti (by decide) rfl) ?_
    refine Dr.SW.p rfl (.inl rfl) rfl (by decide) (yq_load rfl fb24_Ti rfl (by first | exact Sees.root (by assumption) | exact Sees.own (by (try simp only [List.append_assoc, List.cons_append, List.nil_append]); repeat (first | exact List.mem_cons_self | exact List.mem_append_left _ (by assumption) | apply List.mem_cons_of_mem | apply List.mem_append_right)) | exact Sees.root (hR _ (by omega)) | exact Sees.own (RowsIn.mem (by (try simp only [List.append_assoc, List.cons_append, List.nil_append]); repeat (first | exact RowsIn.here | exact RowsIn.last | apply RowsIn.there | apply RowsIn.thereS)) _ (by omega)) | exact Sees.own (WRowsIn.mem (by (try simp only [List.append_assoc, List.cons_append, List.nil_append]); repeat (first | exact WRowsIn.here | exact WRowsIn.last | apply WRowsIn.there | apply WRowsIn.thereS)) _ (by omega))) rfl) ?_
    refine Dr.SW.r rfl (.inl rfl) rfl (by decide) (yr_move rfl rfl) ?_
    refine Dr.SW.c rfl (.inl rfl) rfl (by decide) (yc_callfR rfl known16_Ti (.cons rfl (.cons rfl .nil)) (by apply Pick.one; repeat (first | exact Rem.here | exact Rem.all | exact Rem.hereS | apply Rem.there | apply Rem.thereS)) (c_pick (m := 9) (n := nn + 1) hA hb hl (by (try dsimp only); omega) (by (try dsimp only); omega) (by decide) (by decide))) ?_
    rintro ⟨⟨x33, s33⟩, hx33, hs33⟩
    dsimp only at hx33 hs33
    refine Dr.SW.r rfl (.inl rfl) rfl (by decide) (yr_ofInt rfl Try.underlying2 Try.underlying34 rfl) ?_
    refine Dr.SW.r rfl (.inl rfl) rfl (by decide) (yr_float (b := 1073741824) rfl (.inr (.inr (.inr rfl))) rfl rfl) ?_
    refine Dr.SW.new1 rfl (.inl rfl) rfl (by decide) (yn_lit rfl Try.underlying24 elt34_Ti rfl (by decide) (.cons rfl .nil) (by first | (simp; done) | (simp [cn, cn1, cn0]; done)) rfl rfl rfl) ?_
    intro b36
    refine Dr.SW.c rfl (.inl rfl) rfl (by decide) (yc_appendz 1 rfl rfl Try.underlying24 elt34_Ti rfl rfl (Dr.UpdF.app (by repeat (first | exact UpdF.here | apply UpdF.there | apply UpdF.thereS))) (by first | exact Sees.root (by assumption) | exact Sees.own (by (try simp only [List.append_assoc, List.cons_append, List.nil_append]); repeat (first | exact List.mem_cons_self | exact List.mem_append_left _ (by assumption) | apply List.mem_cons_of_mem | apply List.mem_append_right)) | exact Sees.root (hR _ (by omega)) | exact Sees.own (RowsIn.mem (by (try simp only [List.append_assoc, List.cons_append, List.nil_append]); repeat (first | exact RowsIn.here | exact RowsIn.last | apply RowsIn.there | apply RowsIn.thereS)) _ (by omega)) | exact Sees.own (WRowsIn.mem (by (try simp only [List.append_assoc, List.cons_append, List.nil_append]); repeat (first | exact WRowsIn.here | exact WRowsIn.last | apply WRowsIn.there | apply WRowsIn.thereS)) _ (by omega))) rfl (by rw [fl_length, Nat.mul_one]) rfl (by first | rfl | exact fl_scal _) rfl (by omega) (by omega)) ?_
    rintro ⟨a37, c37⟩
    refine Dr.SW.r rfl (.inl rfl) rfl (by decide) (yr_fieldAddr rfl Try.underlying26 rfl rfl sz24_Ti (by decide) rfl) ?_
    refine Dr.SW.t rfl (.inl rfl) rfl (yc_store rfl sz24_Ti rfl rfl (by repeat (first | exact UpdF.here | apply UpdF.there | apply UpdF.thereS)) (.inl ⟨rfl, rfl⟩) rfl (by first | exact Nat.le_of_ble_eq_true rfl | simp) (by decide) rfl) ?_
    rintro ⟨⟩
    refine Dr.SW.done ?_
    refine Dr.eqO (by simp only [List.append_nil, List.append_assoc, List.cons_append, List.nil_append] <;> rfl) ?_
    refine VE.then_wp ?_
    refine V.seq ?_
    refine Dr.V.drawR [(0, 5), (1, 5), (2, 5), (3, 5), (4, 5), (5, 5), (6, 5), (7, 5), (8, 3), (9, 5), (10, 5), (11, 5), (12, 5), (13, 4)] [] [⟨some ⟨q, 0, none⟩, [.slice a bs.length c, .int .i64 ((nn + 1 + 1 : Nat) : Int), .int .u64 ((s33 : Nat) : Int)], 3, 56⟩] _ mixed_Ti (by kernel_rfl) (fun w hw => Hp.pickS hw (by apply Pick.one; repeat (first | exact Rem.here | exact Rem.all | exact Rem.hereS | apply Rem.there | apply Rem.thereS))) ?_
    refine Dr.SW.r rfl (.inl rfl) rfl (by decide) (yr_fieldAddr rfl Try.underlying26 rfl rfl sz24_Ti (by decide) rfl) ?_
    refine Dr.SW.p rfl (.inl rfl) rfl (by decide) (yq_load rfl fb24_Ti rfl (by first | exact Sees.root (by assumption) | exact Sees.own (by (try simp only [List.append_assoc, List.cons_append, List.nil_append]); repeat (first | exact List.mem_cons_self | exact List.mem_append_left _ (by assumption) | apply List.mem_cons_of_mem | apply List.mem_append_right)) | exact Sees.root (hR _ (by omega)) | exact Sees.own (RowsIn.mem (by (try simp only [List.append_assoc, List.cons_append, List.nil_append]); repeat (first | exact RowsIn.here | exact RowsIn.last | apply RowsIn.there | apply RowsIn.thereS)) _ (by omega)) | exact Sees.own (WRowsIn.mem (by (try simp only [List.append_assoc, List.cons_append, List.nil_append]); repeat (first | exact WRowsIn.here | exact WRowsIn.last | apply WRowsIn.there | apply WRowsIn.thereS)) _ (by omega))) rfl) ?_
    refine Dr.SW.r rfl (.inl rfl) rfl (by decide) (yr_move rfl rfl) ?_
    refine Dr.SW.r rfl (.inl rfl) rfl (by decide) (yr_move rfl rfl) ?_
    refine Dr.SW.r rfl (.inl rfl) rfl (by decide) (yr_mulN xs.length (1 + x9) rfl rfl rfl (by omega) (by omega) (Nat.le_trans (by first | exact q0 | (have := Nat.mul_le_mul (show xs.length ≤ 3 by omega) (show 1 + x9 ≤ 3 by omega); exact this) | (have := Nat.mul_le_mul (show j ≤ 3 by omega) (show 1 + x9 ≤ 3 by omega); exact this) | (have := Nat.mul_le_mul (show 1 + x9 ≤ 3 by omega) (show 1 + x9 ≤ 3 by omega); exact this)) (by decide))) ?_
    refine Dr.SW.r rfl (.inl rfl) rfl (by decide) (yr_move rfl rfl) ?_
    refine Dr.SW.r rfl (.inl rfl) rfl (by decide) (yr_int rfl rfl rfl (.inl ⟨rfl, wrap_in (by (try dsimp only); omega)⟩)) ?_
    refine Dr.SW.r rfl (.inl rfl) rfl (by decide) (yr_move rfl rfl) ?_
    refine Dr.SW.c rfl (.inl rfl) rfl (by decide) (yc_callfR rfl known16_Ti (.cons rfl (.cons rfl .nil)) (by apply Pick.one; repeat (first | exact Rem.here | exact Rem.all | exact Rem.hereS | apply Rem.there | apply Rem.thereS)) (c_pick (m := 8) (n := nn + 1 + 1) hA hb hl (by (try dsimp only); omega) (by (try dsimp only); omega) (by decide) (by decide))) ?_
    rintro ⟨⟨x47, s47⟩, hx47, hs47⟩
    dsimp only at hx47 hs47
    refine Dr.SW.r rfl (.inl rfl) rfl (by decide) (yr_int rfl rfl rfl (.inl ⟨rfl, wrap_in (by (try dsimp only); omega)⟩)) ?_
    refine Dr.SW.r rfl (.inl rfl) rfl (by decide) (yr_ofInt rfl Try.underlying2 Try.underlying34 rfl) ?_
    refine Dr.SW.r rfl (.inl rfl) rfl (by decide) (yr_float (b := 1073741824) rfl (.inr (.inr (.inr rfl))) rfl rfl) ?_
    refine Dr.SW.p rfl (.inl rfl) rfl (by decide) (yq_idx (k := ((xs.length * (1 + x9)) + xs.length)) rfl Try.underlying24 sz34_Ti rfl rfl (by first | exact Sees.root (by assumption) | exact Sees.own (by (try simp only [List.append_assoc, List.cons_append, List.nil_append]); repeat (first | exact List.mem_cons_self | exact List.mem_append_left _ (by assumption) | apply List.mem_cons_of_mem | apply List.mem_append_right)) | exact Sees.root (hR _ (by omega)) | exact Sees.own (RowsIn.mem (by (try simp only [List.append_assoc, List.cons_append, List.nil_append]); repeat (first | exact RowsIn.here | exact RowsIn.last | apply RowsIn.there | apply RowsIn.thereS)) _ (by omega)) | exact Sees.own (WRowsIn.mem (by (try simp only [List.append_assoc, List.cons_append, List.nil_append]); repeat (first | exact WRowsIn.here | exact WRowsIn.last | apply WRowsIn.there | apply WRowsIn.thereS)) _ (by omega))) (by first | rfl | omega | (push_cast; rfl) | (push_cast; omega) | exact tmod_nat _ _) (by rw [fl_length]; first | exact hz9 | exact hz8 | (rw [List.length_set]; first | exact hz9 | exact hz8)) (by first | exact q1 | exact q2 | exact q3 | omega)) ?_
    refine Dr.SW.t rfl (.inl rfl) rfl (yc_store rfl sz34_Ti rfl rfl (by repeat (first | exact UpdF.here | apply UpdF.there | apply UpdF.thereS)) (.inl ⟨rfl, rfl⟩) rfl (by simp only [fl_length, List.length_set]; first | (rw [hz9]; first | exact q1 | exact q2 | exact q3) | (rw [hz8]; first | exact q1 | exact q2 | exact q3) | omega) (by decide) (fl_set _ _ _)) ?_
    rintro ⟨⟩
    refine Dr.SW.done ?_
    refine Dr.eqO (by simp only [List.append_nil, List.append_assoc, List.cons_append, List.nil_append] <;> rfl) ?_
    refine VE.then_wp ?_
    refine V.seq ?_
    refine V.region ?_
    refine VL.r (.inl rfl) rfl (by decide) (yr_assign (u := .int .i64 0) rfl rfl) ?_
    refine VL.nil ?_
    refine VE.then_wp ?_
    refine V.block ?_
    refine V.loopc (G := Nat × (List Nat) × Nat × Nat) [(0, _), (2, _), (3, _), (4, _), (5, _)] (fun ⟨j, zs1, nn1, sd2⟩ => j ≤ xs.length ∧ ZJ (1 + x9) zs1 xs.length j ∧ (n ≤ nn1 ∧ nn1 ≤ nn + 3 + j) ∧ sd2 < 18446744073709551616) (fun ⟨j, zs1, nn1, sd2⟩ => (⟨some ⟨b4, 0, none⟩, [.slice a28 (xs.length + 1) c28, .slice a37 (ys.length + 1) c37, .slice (some ⟨b14, 0, none⟩) ((1 + x9) * (1 + x9)) ((1 + x9) * (1 + x9))], 3, 26⟩ :: ⟨a28, fl (xs ++ [fop .quo .f32 (FloatKind.f32.nearest (x24 : Int)) 1082130432]), c28 * 1, 34⟩ :: ⟨a37, fl (ys ++ [fop .quo .f32 (FloatKind.f32.nearest (x33 : Int)) 1073741824]), c37 * 1, 34⟩ :: ⟨some ⟨b14, 0, none⟩, fl zs1, ((1 + x9) * (1 + x9)) * 1, 34⟩ :: ⟨some ⟨q, 0, none⟩, [.slice a bs.length c, .int .i64 ((nn1 : Nat) : Int), .int .u64 ((sd2 : Nat) : Int)], 3, 56⟩ :: ⟨some ⟨b2, 0, none⟩, [.slice none 0 0, .slice none 0 0, .slice none 0 0], 3, 26⟩ :: F)) (fun ⟨j, zs1, nn1, sd2⟩ => [(6, .int .i64 (j : Int))]) (fun ⟨j, zs1, nn1, sd2⟩ => xs.length - j) (0, (zs.set (xs.length * (1 + x9) + xs.length) (fop .quo .f32 (FloatKind.f32.nearest (4 + (x47 : Int))) 1073741824)), nn + 1 + 1 + 1, s47) (.cons rfl (.cons rfl (.cons rfl (.cons rfl (.cons rfl .nil))))) (.cons rfl .nil) ?_ ?_ ?_
    · exact (fun w hw => by
        dsimp only
        rw [← fl_snoc, ← fl_snoc]
        exact hw.pick (by apply Pick.cons1; (· repeat (first | exact Rem.here | exact Rem.all | exact Rem.hereS | apply Rem.there | apply Rem.thereS)); apply Pick.cons1; (· repeat (first | exact Rem.here | exact Rem.all | exact Rem.hereS | apply Rem.there | apply Rem.thereS)); apply Pick.cons1; (· repeat (first | exact Rem.here | exact Rem.all | exact Rem.hereS | apply Rem.there | apply Rem.thereS)); apply Pick.cons1; (· repeat (first | exact Rem.here | exact Rem.all | exact Rem.hereS | apply Rem.there | apply Rem.thereS)); apply Pick.cons1; (· repeat (first | exact Rem.here | exact Rem.all | exact Rem.hereS | apply Rem.there | apply Rem.thereS)); apply Pick.cons1; (· repeat (first | exact Rem.here | exact Rem.all | exact Rem.hereS | apply Rem.there | apply Rem.thereS)); apply Pick.last; repeat (first | exact Rem.here | exact Rem.all | exact Rem.hereS | apply Rem.there | apply Rem.thereS)))
    · exact (by exact ⟨Nat.zero_le _, hzi9.diag (by omega) (dq_is hx47), ⟨by (try dsimp only); omega, by (try dsimp only); omega⟩, hs47⟩)
    rintro ⟨j, zs1, nn1, sd2⟩ ⟨hj8, hzj8, hn8, hd8⟩
    show V _ _ _ (⟨some ⟨b4, 0, none⟩, [.slice a28 (xs.length + 1) c28, .slice a37 (ys.length + 1) c37, .slice (some ⟨b14, 0, none⟩) ((1 + x9) * (1 + x9)) ((1 + x9) * (1 + x9))], 3, 26⟩ :: ⟨a28, fl (xs ++ [fop .quo .f32 (FloatKind.f32.nearest (x24 : Int)) 1082130432]), c28 * 1, 34⟩ :: ⟨a37, fl (ys ++ [fop .quo .f32 (FloatKind.f32.nearest (x33 : Int)) 1073741824]), c37 * 1, 34⟩ :: ⟨some ⟨b14, 0, none⟩, fl zs1, ((1 + x9) * (1 + x9)) * 1, 34⟩ :: ⟨some ⟨q, 0, none⟩, [.slice a bs.length c, .int .i64 ((nn1 : Nat) : Int), .int .u64 ((sd2 : Nat) : Int)], 3, 56⟩ :: ⟨some ⟨b2, 0, none⟩, [.slice none 0 0, .slice none 0 0, .slice none 0 0], 3, 26⟩ :: F) ([(6, .int .i64 (j : Int))] ++ [(0, _), (2, _), (3, _), (4, _), (5, _)]) _ _
    have hz8 := hzj8.len
    refine V.seq ?_
    refine V.seq ?_
    refine V.region ?_
    refine VL.r (.inl rfl) rfl (by decide) (yr_move rfl rfl) ?_
    refine VL.r (.inl rfl) rfl (by decide) (yr_move rfl rfl) ?_
    refine VL.r (.inl rfl) rfl (by decide) (yr_icmp rfl (.inr (.inr (.inl rfl))) rfl rfl) ?_
    refine VL.nil ?_
    refine VE.then_wp ?_
    refine V.cond rfl (fun h2 => ?_) (fun h2 => ?_)
    · skip
      replace h2 := ic_lss h2
      have hj9 : j < 1 + x9 := by omega
      have q2 := idx_in hi9 hj9
      have q3 := idx_in hj9 hi9
      refine V.skip ?_
      refine VE.then_wp ?_
      refine V.seq ?_
      refine V.block ?_
      refine V.seq ?_
      refine V.region ?_
      refine VL.r (.inl rfl) rfl (by decide) (yr_move rfl rfl) ?_
      refine VL.c (.inl rfl) rfl (by decide) (yc_callf rfl known16_Ti (.cons rfl (.cons rfl .nil)) (by apply Pick.one; repeat (first | exact Rem.here | apply Rem.there | apply Rem.thereS)) (c_pick (m := 7) (n := nn1) hA hb hl (by (try dsimp only); omega) (by (try dsimp only); omega) (by decide) (by decide))) ?_
      rintro ⟨⟨x58, s58⟩, hx58, hs58⟩
      dsimp only at hx58 hs58
      refine VL.r (.inl rfl) rfl (by decide) (yr_int rfl rfl rfl (.inr (.inl ⟨rfl, wrap_in (by (try dsimp only); omega)⟩))) ?_
      refine VL.r (.inl rfl) rfl (by decide) (yr_ofInt rfl Try.underlying2 Try.underlying34 rfl) ?_
      refine VL.r (.inl rfl) rfl (by decide) (yr_float (b := 1082130432) rfl (.inr (.inr (.inr rfl))) rfl rfl) ?_
      refine VL.r (.inl rfl) rfl (by decide) (yr_assign rfl rfl) ?_
      refine VL.nil ?_
      refine VE.then_wp ?_
      refine V.seq ?_
      refine V.region ?_
      refine VL.r (.inl rfl) rfl (by decide) (yr_fieldAddr rfl Try.underlying26 rfl rfl sz24_Ti (by decide) rfl) ?_
      refine VL.q (.inl rfl) rfl (by decide) (yq_load rfl fb24_Ti rfl (by first | exact Sees.root (by assumption) | exact Sees.own (by repeat (first | exact List.mem_cons_self | exact List.mem_append_left _ (by assumption) | apply List.mem_cons_of_mem | apply List.mem_append_right)) | exact Sees.root (hR _ (by omega)) | exact Sees.own (RowsIn.mem (by repeat (first | exact RowsIn.here | exact RowsIn.last | apply RowsIn.there | apply RowsIn.thereS)) _ (by omega)) | exact Sees.own (WRowsIn.mem (by repeat (first | exact WRowsIn.here | exact WRowsIn.last | apply WRowsIn.there | apply WRowsIn.thereS)) _ (by omega))) rfl) ?_
      refine VL.r (.inl rfl) rfl (by decide) (yr_move rfl rfl) ?_
      refine VL.r (.inl rfl) rfl (by decide) (yr_move rfl rfl) ?_
      refine VL.r (.inl rfl) rfl (by decide) (yr_mulN xs.length (1 + x9) rfl rfl rfl (by omega) (by omega) (Nat.le_trans (by first | exact q0 | (have := Nat.mul_le_mul (show xs.length ≤ 3 by omega) (show 1 + x9 ≤ 3 by omega); exact this) | (have := Nat.mul_le_mul (show j ≤ 3 by omega) (show 1 + x9 ≤ 3 by omega); exact this) | (have := Nat.mul_le_mul (show 1 + x9 ≤ 3 by omega) (show 1 + x9 ≤ 3 by omega); exact this)) (by decide))) ?_
      refine VL.r (.inl rfl) rfl (by decide) (yr_move rfl rfl) ?_
      refine VL.r (.inl rfl) rfl (by decide) (yr_int rfl rfl rfl (.inl ⟨rfl, wrap_in (by (try dsimp only); omega)⟩)) ?_
      refine VL.r (.inl rfl) rfl (by decide) (yr_move rfl rfl) ?_
      refine VL.q (.inl rfl) rfl (by decide) (yq_idx (k := ((xs.length * (1 + x9)) + j)) rfl Try.underlying24 sz34_Ti rfl rfl (by first | exact Sees.root (by assumption) | exact Sees.own (by repeat (first | exact List.mem_cons_self | exact List.mem_append_left _ (by assumption) | apply List.mem_cons_of_mem | apply List.mem_append_right)) | exact Sees.root (hR _ (by omega)) | exact Sees.own (RowsIn.mem (by repeat (first | exact RowsIn.here | exact RowsIn.last | apply RowsIn.there | apply RowsIn.thereS)) _ (by omega)) | exact Sees.own (WRowsIn.mem (by repeat (first | exact WRowsIn.here | exact WRowsIn.last | apply WRowsIn.there | apply WRowsIn.thereS)) _ (by omega))) (by first | rfl | omega | (push_cast; rfl) | (push_cast; omega) | exact tmod_nat _ _) (by rw [fl_length]; first | exact hz9 | exact hz8 | (rw [List.length_set]; first | exact hz9 | exact hz8)) (by first | exact q1 | exact q2 | exact q3 | omega)) ?_
      refine VL.s (.inl rfl) rfl (yc_store rfl sz34_Ti rfl rfl (by repeat (first | exact UpdF.here | apply UpdF.there | apply UpdF.thereS)) (.inl ⟨rfl, rfl⟩) rfl (by simp only [fl_length, List.length_set]; first | (rw [hz9]; first | exact q1 | exact q2 | exact q3) | (rw [hz8]; first | exact q1 | exact q2 | exact q3) | omega) (by decide) (fl_set _ _ _)) ?_
      rintro ⟨⟩
      refine VL.nil ?_
      refine VE.then_wp ?_
      refine V.region ?_
      refine VL.r (.inl rfl) rfl (by decide) (yr_fieldAddr rfl Try.underlying26 rfl rfl sz24_Ti (by decide) rfl) ?_
      refine VL.q (.inl rfl) rfl (by decide) (yq_load rfl fb24_Ti rfl (by first | exact Sees.root (by assumption) | exact Sees.own (by repeat (first | exact List.mem_cons_self | exact List.mem_append_left _ (by assumption) | apply List.mem_cons_of_mem | apply List.mem_append_right)) | exact Sees.root (hR _ (by omega)) | exact Sees.own (RowsIn.mem (by repeat (first | exact RowsIn.here | exact RowsIn.last | apply RowsIn.there | apply RowsIn.thereS)) _ (by omega)) | exact Sees.own (WRowsIn.mem (by repeat (first | exact WRowsIn.here | exact WRowsIn.last | apply WRowsIn.there | apply WRowsIn.thereS)) _ (by omega))) rfl) ?_
      refine VL.r (.inl rfl) rfl (by decide) (yr_move rfl rfl) ?_
      refine VL.r (.inl rfl) rfl (by decide) (yr_move rfl rfl) ?_
      refine VL.r (.inl rfl) rfl (by decide) (yr_mulN j (1 + x9) rfl rfl rfl (by omega) (by omega) (Nat.le_trans (by first | exact q0 | (have := Nat.mul_le_mul (show xs.length ≤ 3 by omega) (show 1 + x9 ≤ 3 by omega); exact this) | (have := Nat.mul_le_mul (show j ≤ 3 by omega) (show 1 + x9 ≤ 3 by omega); exact this) | (have := Nat.mul_le_mul (show 1 + x9 ≤ 3 by omega) (show 1 + x9 ≤ 3 by omega); exact this)) (by decide))) ?_
      refine VL.r (.inl rfl) rfl (by decide) (yr_move rfl rfl) ?_
      refine VL.r (.inl rfl) rfl (by decide) (yr_int rfl rfl rfl (.inl ⟨rfl, wrap_in (by (try dsimp only); omega)⟩)) ?_
      refine VL.r (.inl rfl) rfl (by decide) (yr_move rfl rfl) ?_
      refine VL.q (.inl rfl) rfl (by decide) (yq_idx (k := ((j * (1 + x9)) + xs.length)) rfl Try.underlying24 sz34_Ti rfl rfl (by first | exact Sees.root (by assumption) | exact Sees.own (by repeat (first | exact List.mem_cons_self | exact List.mem_append_left _ (by assumption) | apply List.mem_cons_of_mem | apply List.mem_append_right)) | exact Sees.root (hR _ (by omega)) | exact Sees.own (RowsIn.mem (by repeat (first | exact RowsIn.here | exact RowsIn.last | apply RowsIn.there | apply RowsIn.thereS)) _ (by omega)) | exact Sees.own (WRowsIn.mem (by repeat (first | exact WRowsIn.here | exact WRowsIn.last | apply WRowsIn.there | apply WRowsIn.thereS)) _ (by omega))) (by first | rfl | omega | (push_cast; rfl) | (push_cast; omega) | exact tmod_nat _ _) (by rw [fl_length]; first | exact hz9 | exact hz8 | (rw [List.length_set]; first | exact hz9 | exact hz8)) (by first | exact q1 | exact q2 | exact q3 | omega)) ?_
      refine VL.s (.inl rfl) rfl (yc_store rfl sz34_Ti rfl rfl (by repeat (first | exact UpdF.here | apply UpdF.there | apply UpdF.thereS)) (.inl ⟨rfl, rfl⟩) rfl (by simp only [fl_length, List.length_set]; first | (rw [hz9]; first | exact q1 | exact q2 | exact q3) | (rw [hz8]; first | exact q1 | exact q2 | exact q3) | omega) (by decide) (fl_set _ _ _)) ?_
      rintro ⟨⟩
      refine VL.nil ?_
      refine VE.block_normal ?_
      refine VE.then_wp ?_
      refine V.region ?_
      refine VL.r (.inl rfl) rfl (by decide) (yr_move rfl rfl) ?_
      refine VL.r (.inl rfl) rfl (by decide) (yr_int rfl rfl rfl (.inl ⟨rfl, wrap_in (by (try dsimp only); omega)⟩)) ?_
      refine VL.r (.inl rfl) rfl (by decide) (yr_assign rfl rfl) ?_
      refine VL.nil ?_
      refine VE.round (j + 1, (zs1.set (xs.length * (1 + x9) + j) (fop .quo .f32 (FloatKind.f32.nearest ((x58 : Int) - 3)) 1082130432)).set (j * (1 + x9) + xs.length) (fop .quo .f32 (FloatKind.f32.nearest ((x58 : Int) - 3)) 1082130432), nn1 + 1, s58) ?_ ?_ ?_ ?_ ?_
      · exact (.cons rfl .nil)
      · exact (.cons rfl (.cons rfl (.cons rfl (.cons rfl (.cons rfl .nil)))))
      · exact (fun w hw => hw.pick (by apply Pick.cons1; (· repeat (first | exact Rem.here | exact Rem.all | exact Rem.hereS | apply Rem.there | apply Rem.thereS)); apply Pick.cons1; (· repeat (first | exact Rem.here | exact Rem.all | exact Rem.hereS | apply Rem.there | apply Rem.thereS)); apply Pick.cons1; (· repeat (first | exact Rem.here | exact Rem.all | exact Rem.hereS | apply Rem.there | apply Rem.thereS)); apply Pick.cons1; (· repeat (first | exact Rem.here | exact Rem.all | exact Rem.hereS | apply Rem.there | apply Rem.thereS)); apply Pick.cons1; (· repeat (first | exact Rem.here | exact Rem.all | exact Rem.hereS | apply Rem.there | apply Rem.thereS)); apply Pick.cons1; (· repeat (first | exact Rem.here | exact Rem.all | exact Rem.hereS | apply Rem.there | apply Rem.thereS)); apply Pick.last; repeat (first | exact Rem.here | exact Rem.all | exact Rem.hereS | apply Rem.there | apply Rem.thereS)))
      · exact ⟨by omega, hzj8.step (by omega) (by omega) (oq_is hx58), ⟨by omega, by omega⟩, hs58⟩
      · (try dsimp only); omega
    · skip
      replace h2 := ic_lss' h2
      refine V.exit ?_
      refine VE.then_exit ?_
      refine VE.then_exit ?_
      refine VE.block_here ?_
      refine VE.block_normal ?_
      refine VE.then_wp ?_
      refine V.region ?_
      refine VL.r (.inl rfl) rfl (by decide) (yr_move rfl rfl) ?_
      refine VL.r (.inl rfl) rfl (by decide) (yr_int rfl rfl rfl (.inl ⟨rfl, wrap_in (by (try dsimp only); omega)⟩)) ?_
      refine VL.r (.inl rfl) rfl (by decide) (yr_assign rfl rfl) ?_
      refine VL.nil ?_
      refine VE.round (xs ++ [fop .quo .f32 (FloatKind.f32.nearest (x24 : Int)) 1082130432], a28, c28, ys ++ [fop .quo .f32 (FloatKind.f32.nearest (x33 : Int)) 1073741824], a37, c37, zs1, nn1, sd2) ?_ ?_ ?_ ?_ ?_
      · exact (.cons (congrArg (fun i => some (Value.int .i64 i)) (by rw [List.length_append]; rfl)) .nil)
      · exact (.cons rfl (.cons rfl (.cons rfl (.cons rfl .nil))))
      · exact (fun w hw => by
          dsimp only
          rw [List.length_append, List.length_append]
          exact hw.pick (by apply Pick.cons1; (· repeat (first | exact Rem.here | exact Rem.all | exact Rem.hereS | apply Rem.there | apply Rem.thereS)); apply Pick.cons1; (· repeat (first | exact Rem.here | exact Rem.all | exact Rem.hereS | apply Rem.there | apply Rem.thereS)); apply Pick.cons1; (· repeat (first | exact Rem.here | exact Rem.all | exact Rem.hereS | apply Rem.there | apply Rem.thereS)); apply Pick.cons1; (· repeat (first | exact Rem.here | exact Rem.all | exact Rem.hereS | apply Rem.there | apply Rem.thereS)); apply Pick.cons1; (· repeat (first | exact Rem.here | exact Rem.all | exact Rem.hereS | apply Rem.there | apply Rem.thereS)); apply Pick.cons1; (· repeat (first | exact Rem.here | exact Rem.all | exact Rem.hereS | apply Rem.there | apply Rem.thereS)); apply Pick.last; repeat (first | exact Rem.here | exact Rem.all | exact Rem.hereS | apply Rem.there | apply Rem.thereS)))
      · dsimp only
        simp only [List.length_append, List.length_cons, List.length_nil, Nat.zero_add]
        exact ⟨by omega, by omega, hzj8.done (by omega), mem_app hgy9 (mem_one (gq_is hx33)), ⟨by omega, by omega⟩, hd8⟩
      · dsimp only; rw [List.length_append]; show 1 + x9 - (xs.length + 1) < 1 + x9 - xs.length; omega
  · skip
    replace h1 := ic_lss' h1
    refine V.exit ?_
    refine VE.then_exit ?_
    refine VE.then_exit ?_
    refine VE.block_here ?_
    refine VE.then_wp ?_
    refine V.seq ?_
    refine V.region ?_
    refine VL.q (.inl rfl) rfl (by decide) (yq_loadS rfl Try.underlying26 sz26_Ti rfl (by first | exact Sees.root (by assumption) | exact Sees.own (by repeat (first | exact List.mem_cons_self | exact List.mem_append_left _ (by assumption) | apply List.mem_cons_of_mem | apply List.mem_append_right)) | exact Sees.root (hR _ (by omega)) | exact Sees.own (RowsIn.mem (by repeat (first | exact RowsIn.here | exact RowsIn.last | apply RowsIn.there | apply RowsIn.thereS)) _ (by omega)) | exact Sees.own (WRowsIn.mem (by repeat (first | exact WRowsIn.here | exact WRowsIn.last | apply WRowsIn.there | apply WRowsIn.thereS)) _ (by omega))) rfl rfl rfl) ?_
    refine VL.s (.inl rfl) rfl (yc_store rfl sz26_Ti rfl rfl (by repeat (first | exact UpdF.here | apply UpdF.there | apply UpdF.thereS)) (.inr ⟨rfl, rfl⟩) rfl (by first | exact Nat.le_of_ble_eq_true rfl | simp) (by decide) rfl) ?_
    rintro ⟨⟩
    refine VL.nil ?_
    refine VE.then_wp ?_
    refine V.ret ?_
    refine retC rfl (rv_cellS rfl Try.underlying26 sz26_Ti (by first | exact Sees.root (by assumption) | exact Sees.own (by repeat (first | exact List.mem_cons_self | exact List.mem_append_left _ (by assumption) | apply List.mem_cons_of_mem | apply List.mem_append_right)) | exact Sees.root (hR _ (by omega)) | exact Sees.own (RowsIn.mem (by repeat (first | exact RowsIn.here | exact RowsIn.last | apply RowsIn.there | apply RowsIn.thereS)) _ (by omega)) | exact Sees.own (WRowsIn.mem (by repeat (first | exact WRowsIn.here | exact WRowsIn.last | apply WRowsIn.there | apply WRowsIn.thereS)) _ (by omega))) rfl rfl rfl) (by nofun) (fun w1 hw => ?_)
    obtain hxn : xs.length = 1 + x9 := by omega
    exact ⟨⟨((((a1, c1), xs), ((a2, c2), ys), ((some ⟨b14, 0, none⟩, ((1 + x9) * (1 + x9))), zs)), nn, sd1), ⟨by show xs.length = ys.length; omega, by show CE xs.length ys zs; rw [hxn] at hzi9 ⊢; exact ⟨by omega, by omega, by omega, hgy9, hzi9⟩⟩, by assumption, by (try dsimp only); omega, by (try dsimp only); omega⟩, by dsimp only; rw [hz9]; rfl, hw.pick (by apply Pick.app1; (· repeat (first | exact Rem.here | exact Rem.all | exact Rem.hereS | apply Rem.there | apply Rem.thereS)); apply Pick.cons1; (· repeat (first | exact Rem.here | exact Rem.all | exact Rem.hereS | apply Rem.there | apply Rem.thereS)); apply Pick.cons1; (· repeat (first | exact Rem.here | exact Rem.all | exact Rem.hereS | apply Rem.there | apply Rem.thereS)); apply Pick.cons1; (· repeat (first | exact Rem.here | exact Rem.all | exact Rem.hereS | apply Rem.there | apply Rem.thereS)); apply Pick.cons1; (· repeat (first | exact Rem.here | exact Rem.all | exact Rem.hereS | apply Rem.there | apply Rem.thereS)); exact Pick.nil)⟩

theorem c_b10Circ {w : World} {a : Option Addr} {c : Nat} {bs : List Int} (hA : Cl w a (bl bs)) (hb : Bytes bs) (hl : bs.length ≤ 2000000) : New Try.prog 5 [.slice a bs.length c] w (fun x : {x : ((Option Addr × Nat) × (Option Addr × Nat) × (Option Addr × Nat)) × (List Nat × List Nat × List Nat) × Nat // CD x.2.2 x.2.1.1 x.2.1.2.1 x.2.1.2.2} => .agg #[.slice x.1.1.1.1 x.1.2.2 x.1.1.1.2, .slice x.1.1.2.1.1 x.1.2.2 x.1.1.2.1.2, .slice x.1.1.2.2.1 (x.1.2.2 * x.1.2.2) x.1.1.2.2.2]) (fun x => [⟨x.1.1.1.1, fl x.1.2.1.1, x.1.1.1.2 * 1, 34⟩, ⟨x.1.1.2.1.1, fl x.1.2.1.2.1, x.1.1.2.1.2 * 1, 34⟩, ⟨x.1.1.2.2.1, fl x.1.2.1.2.2, x.1.1.2.2.2 * 1, 34⟩]) := by
  refine New.enter Try.func5 rfl Try.ntmps5 (Nat.le_of_ble_eq_true rfl) ?_
  haveI hne8 : Nonempty {x : Nat × Nat // x.1 < 8 ∧ x.2 < 18446744073709551616} := ⟨⟨(0, 0), by decide, by decide⟩⟩
  refine V.seq ?_
  refine V.region ?_
  refine VL.new1 (.inl rfl) rfl (by decide) (yn_alloc rfl zero26_Ti rfl) ?_
  intro b2
  refine VL.nil ?_
  refine VE.then_wp ?_
  refine V.seq ?_
  refine V.region ?_
  refine VL.r (.inl rfl) rfl (by decide) (yr_move rfl rfl) ?_
  refine VL.new1 (.inl rfl) rfl (by decide) (yn_callf rfl known14_Ti (.cons rfl .nil) (fun w hw => c_from)) ?_
  intro b7
  refine VL.r (.inl rfl) rfl (by decide) (yr_assign rfl rfl) ?_
  refine VL.nil ?_
  refine VE.then_wp ?_
  refine V.seq ?_
  refine V.region ?_
  refine VL.r (.inl rfl) rfl (by decide) (yr_move rfl rfl) ?_
  refine VL.c (.inl rfl) rfl (by decide) (yc_callf rfl known15_Ti (.cons rfl .nil) (by apply Pick.one; repeat (first | exact Rem.here | apply Rem.there | apply Rem.thereS)) (c_dcircT (n := 0) (sd := 0) hA hb hl (by decide) (by decide))) ?_
  rintro ⟨⟨⟨⟨⟨a9, c9⟩, xs9⟩, ⟨⟨d9, e9⟩, ys9⟩, ⟨f9, g9⟩, zs9⟩, n9, s9⟩, ⟨hv9, he9⟩, hs9, hn9, hm9⟩
  dsimp only at hv9 he9 hs9 hn9 hm9
  refine VL.new1 (.inl rfl) rfl (by decide) (yn_alloc rfl zero26_Ti rfl) ?_
  intro b4
  refine VL.s (.inl rfl) rfl (yc_store rfl sz26_Ti rfl rfl (by repeat (first | exact UpdF.here | apply UpdF.there | apply UpdF.thereS)) (.inr ⟨rfl, rfl⟩) rfl (by first | exact Nat.le_of_ble_eq_true rfl | simp) (by decide) rfl) ?_
  rintro ⟨⟩
  refine VL.nil ?_
  refine VE.then_wp ?_
  refine V.seq ?_
  refine V.seq ?_
  refine V.region ?_
  refine VL.r (.inl rfl) rfl (by decide) (yr_fieldAddr rfl Try.underlying26 rfl rfl sz24_Ti (by decide) rfl) ?_
  refine VL.q (.inl rfl) rfl (by decide) (yq_load rfl fb24_Ti rfl (by first | exact Sees.root (by assumption) | exact Sees.own (by repeat (first | exact List.mem_cons_self | exact List.mem_append_left _ (by assumption) | apply List.mem_cons_of_mem | apply List.mem_append_right)) | exact Sees.root (hR _ (by omega)) | exact Sees.own (RowsIn.mem (by repeat (first | exact RowsIn.here | exact RowsIn.last | apply RowsIn.there | apply RowsIn.thereS)) _ (by omega)) | exact Sees.own (WRowsIn.mem (by repeat (first | exact WRowsIn.here | exact WRowsIn.last | apply WRowsIn.there | apply WRowsIn.thereS)) _ (by omega))) rfl) ?_
  refine VL.r (.inl rfl) rfl (by decide) (yr_len rfl Try.underlying24 rfl) ?_
  refine VL.r (.inl rfl) rfl (by decide) (yr_move (u := .int .i64 0) rfl rfl) ?_
  refine VL.nil ?_
  refine VE.then_wp ?_
  refine V.block ?_
  refine V.loopc (G := (List Nat) × Nat × Nat × Nat) [(2, _), (3, _), (4, _), (12, _)] (fun ⟨xs, i, nn, sd1⟩ => i ≤ xs9.length ∧ xs.length = xs9.length ∧ (∀ a, a < i → R8w (xs.getD a 0)) ∧ nn ≤ 60 + i ∧ sd1 < 18446744073709551616) (fun ⟨xs, i, nn, sd1⟩ => (⟨some ⟨b4, 0, none⟩, [.slice a9 xs9.length c9, .slice d9 ys9.length e9, .slice f9 zs9.length g9], 3, 26⟩ :: ⟨some ⟨b7, 0, none⟩, [.slice a bs.length c, .int .i64 ((nn : Nat) : Int), .int .u64 ((sd1 : Nat) : Int)], 3, 56⟩ :: ⟨a9, fl xs, c9 * 1, 34⟩ :: ⟨d9, fl ys9, e9 * 1, 34⟩ :: ⟨f9, fl zs9, g9 * 1, 34⟩ :: ⟨some ⟨b2, 0, none⟩, [.slice none 0 0, .slice none 0 0, .slice none 0 0], 3, 26⟩ :: [])) (fun ⟨xs, i, nn, sd1⟩ => [(13, .int .i64 (i : Int))]) (fun ⟨xs, i, nn, sd1⟩ => xs9.length - i) (xs9, 0, n9, s9) (.cons rfl (.cons rfl (.cons rfl (.cons rfl .nil)))) (.cons rfl .nil) ?_ ?_ ?_
  · exact (fun w hw => hw.pick (by apply Pick.cons1; (· repeat (first | exact Rem.here | exact Rem.all | exact Rem.hereS | apply Rem.there | apply Rem.thereS)); apply Pick.cons1; (· repeat (first | exact Rem.here | exact Rem.all | exact Rem.hereS | apply Rem.there | apply Rem.thereS)); apply Pick.cons1; (· repeat (first | exact Rem.here | exact Rem.all | exact Rem.hereS | apply Rem.there | apply Rem.thereS)); apply Pick.cons1; (· repeat (first | exact Rem.here | exact Rem.all | exact Rem.hereS | apply Rem.there | apply Rem.thereS)); apply Pick.cons1; (· repeat (first | exact Rem.here | exact Rem.all | exact Rem.hereS | apply Rem.there | apply Rem.thereS)); apply Pick.cons1; (· repeat (first | exact Rem.here | exact Rem.all | exact Rem.hereS | apply Rem.there | apply Rem.thereS)); exact Pick.nil))
  · exact (by exact ⟨Nat.zero_le _, rfl, fun a h => absurd h (Nat.not_lt_zero _), by (try dsimp only); omega, hs9⟩)
  rintro ⟨xs, i, nn, sd1⟩ ⟨hi9, hlx9, hr9, hn99, hd99⟩
  show V _ _ _ (⟨some ⟨b4, 0, none⟩, [.slice a9 xs9.length c9, .slice d9 ys9.length e9, .slice f9 zs9.length g9], 3, 26⟩ :: ⟨some ⟨b7, 0, none⟩, [.slice a bs.length c, .int .i64 ((nn : Nat) : Int), .int .u64 ((sd1 : Nat) : Int)], 3, 56⟩ :: ⟨a9, fl xs, c9 * 1, 34⟩ :: ⟨d9, fl ys9, e9 * 1, 34⟩ :: ⟨f9, fl zs9, g9 * 1, 34⟩ :: ⟨some ⟨b2, 0, none⟩, [.slice none 0 0, .slice none 0 0, .slice none 0 0], 3, 26⟩ :: []) ([(13, .int .i64 (i : Int))] ++ [(2, _), (3, _), (4, _), (12, _)]) _ _
  have hn3 : xs9.length ≤ 3 := he9.n3
  refine V.seq ?_
  refine V.region ?_
  refine VL.r (.inl rfl) rfl (by decide) (yr_icmp rfl (.inr (.inr (.inl rfl))) rfl rfl) ?_
  refine VL.nil ?_
  refine VE.then_wp ?_
  refine V.seq ?_
  refine V.cond rfl (fun h1 => ?_) (fun h1 => ?_)
  · skip
    replace h1 := ic_lss h1
    (try dsimp only at h1)
    refine V.skip ?_
    refine VE.then_wp ?_
    refine V.seq ?_
    refine V.block ?_
    refine V.seq ?_
    refine V.region ?_
    refine VL.r (.inl rfl) rfl (by decide) (yr_move rfl rfl) ?_
    refine VL.r (.inl rfl) rfl (by decide) (yr_assign rfl rfl) ?_
    refine VL.nil ?_
    refine VE.then_wp ?_
    refine Dr.V.drawR [(0, 5), (1, 5), (2, 5), (3, 5), (4, 3), (5, 5), (6, 5), (7, 5), (8, 5), (9, 4)] [] [⟨some ⟨b7, 0, none⟩, [.slice a bs.length c, .int .i64 ((nn : Nat) : Int), .int .u64 ((sd1 : Nat) : Int)], 3, 56⟩] _ mixed_Ti (by kernel_rfl) (fun w hw => Hp.pickS hw (by apply Pick.one; repeat (first | exact Rem.here | exact Rem.all | exact Rem.hereS | apply Rem.there | apply Rem.thereS))) ?_
    refine Dr.SW.r rfl (.inl rfl) rfl (by decide) (yr_fieldAddr rfl Try.underlying26 rfl rfl sz24_Ti (by decide) rfl) ?_
    refine Dr.SW.p rfl (.inl rfl) rfl (by decide) (yq_load rfl fb24_Ti rfl (by first | exact Sees.root (by assumption) | exact Sees.own (by (try simp only [List.append_assoc, List.cons_append, List.nil_append]); repeat (first | exact List.mem_cons_self | exact List.mem_append_left _ (by assumption) | apply List.mem_cons_of_mem | apply List.mem_append_right)) | exact Sees.root (hR _ (by omega)) | exact Sees.own (RowsIn.mem (by (try simp only [List.append_assoc, List.cons_append, List.nil_append]); repeat (first | exact RowsIn.here | exact RowsIn.last | apply RowsIn.there | apply RowsIn.thereS)) _ (by omega)) | exact Sees.own (WRowsIn.mem (by (try simp only [List.append_assoc, List.cons_append, List.nil_append]); repeat (first | exact WRowsIn.here | exact WRowsIn.last | apply WRowsIn.there | apply WRowsIn.thereS)) _ (by omega))) rfl) ?_
    refine Dr.SW.r rfl (.inl rfl) rfl (by decide) (yr_move rfl rfl) ?_
    refine Dr.SW.r rfl (.inl rfl) rfl (by decide) (yr_move rfl rfl) ?_
    refine Dr.SW.c rfl (.inl rfl) rfl (by decide) (yc_callfR rfl known16_Ti (.cons rfl (.cons rfl .nil)) (by apply Pick.one; repeat (first | exact Rem.here | exact Rem.all | exact Rem.hereS | apply Rem.there | apply Rem.thereS)) (c_pick (m := 8) (n := nn) hA hb hl (by (try dsimp only); omega) (by (try dsimp only); omega) (by decide) (by decide))) ?_
    rintro ⟨⟨x20, s20⟩, hx20, hs20⟩
    dsimp only at hx20 hs20
    refine Dr.SW.r rfl (.inl rfl) rfl (by decide) (yr_int rfl rfl rfl (.inl ⟨rfl, wrap_in (by (try dsimp only); omega)⟩)) ?_
    refine Dr.SW.r rfl (.inl rfl) rfl (by decide) (yr_ofInt rfl Try.underlying2 Try.underlying34 rfl) ?_
    refine Dr.SW.r rfl (.inl rfl) rfl (by decide) (yr_float (b := 1082130432) rfl (.inr (.inr (.inr rfl))) rfl rfl) ?_
    refine Dr.SW.p rfl (.inl rfl) rfl (by decide) (yq_idx (k := i) rfl Try.underlying24 sz34_Ti rfl rfl (by first | exact Sees.root (by assumption) | exact Sees.own (by (try simp only [List.append_assoc, List.cons_append, List.nil_append]); repeat (first | exact List.mem_cons_self | exact List.mem_append_left _ (by assumption) | apply List.mem_cons_of_mem | apply List.mem_append_right)) | exact Sees.root (hR _ (by omega)) | exact Sees.own (RowsIn.mem (by (try simp only [List.append_assoc, List.cons_append, List.nil_append]); repeat (first | exact RowsIn.here | exact RowsIn.last | apply RowsIn.there | apply RowsIn.thereS)) _ (by omega)) | exact Sees.own (WRowsIn.mem (by (try simp only [List.append_assoc, List.cons_append, List.nil_append]); repeat (first | exact WRowsIn.here | exact WRowsIn.last | apply WRowsIn.there | apply WRowsIn.thereS)) _ (by omega))) rfl (by rw [fl_length]; exact hlx9) (by (try dsimp only); omega)) ?_
    refine Dr.SW.t rfl (.inl rfl) rfl (yc_store rfl sz34_Ti rfl rfl (by repeat (first | exact UpdF.here | apply UpdF.there | apply UpdF.thereS)) (.inl ⟨rfl, rfl⟩) rfl (by rw [fl_length]; (try dsimp only); omega) (by decide) (fl_set _ _ _)) ?_
    rintro ⟨⟩
    refine Dr.SW.done ?_
    refine Dr.eqO (by simp only [List.append_nil, List.append_assoc, List.cons_append, List.nil_append] <;> rfl) ?_
    refine VE.block_normal ?_
    refine VE.then_wp ?_
    refine V.region ?_
    refine VL.r (.inl rfl) rfl (by decide) (yr_int rfl rfl rfl (.inl ⟨rfl, wrap_in (by omega)⟩)) ?_
    refine VL.r (.inl rfl) rfl (by decide) (yr_move rfl rfl) ?_
    refine VL.nil ?_
    refine VE.round (xs.set i (fop .quo .f32 (FloatKind.f32.nearest (1 + (x20 : Int))) 1082130432), i + 1, nn + 1, s20) ?_ ?_ ?_ ?_ ?_
    · exact (.cons rfl .nil)
    · exact (.cons rfl (.cons rfl (.cons rfl (.cons rfl .nil))))
    · exact (fun w hw => hw.pick (by apply Pick.cons1; (· repeat (first | exact Rem.here | exact Rem.all | exact Rem.hereS | apply Rem.there | apply Rem.thereS)); apply Pick.cons1; (· repeat (first | exact Rem.here | exact Rem.all | exact Rem.hereS | apply Rem.there | apply Rem.thereS)); apply Pick.cons1; (· repeat (first | exact Rem.here | exact Rem.all | exact Rem.hereS | apply Rem.there | apply Rem.thereS)); apply Pick.cons1; (· repeat (first | exact Rem.here | exact Rem.all | exact Rem.hereS | apply Rem.there | apply Rem.thereS)); apply Pick.cons1; (· repeat (first | exact Rem.here | exact Rem.all | exact Rem.hereS | apply Rem.there | apply Rem.thereS)); apply Pick.cons1; (· repeat (first | exact Rem.here | exact Rem.all | exact Rem.hereS | apply Rem.there | apply Rem.thereS)); exact Pick.nil))
    · exact ⟨by omega, by rw [List.length_set]; exact hlx9, tf_upd hr9 (by omega) (rq_is hx20), by omega, hs20⟩
    · (try dsimp only); omega
  · skip
    replace h1 := ic_lss' h1
    (try dsimp only at h1)
    refine V.exit ?_
    refine VE.then_exit ?_
    refine VE.then_exit ?_
    refine VE.block_here ?_
    refine VE.then_wp ?_
    refine V.seq ?_
    refine V.region ?_
    refine VL.q (.inl rfl) rfl (by decide) (yq_loadS rfl Try.underlying26 sz26_Ti rfl (by first | exact Sees.root (by assumption) | exact Sees.own (by repeat (first | exact List.mem_cons_self | exact List.mem_append_left _ (by assumption) | apply List.mem_cons_of_mem | apply List.mem_append_right)) | exact Sees.root (hR _ (by omega)) | exact Sees.own (RowsIn.mem (by repeat (first | exact RowsIn.here | exact RowsIn.last | apply RowsIn.there | apply RowsIn.thereS)) _ (by omega)) | exact Sees.own (WRowsIn.mem (by repeat (first | exact WRowsIn.here | exact WRowsIn.last | apply WRowsIn.there | apply WRowsIn.thereS)) _ (by omega))) rfl rfl rfl) ?_
    refine VL.s (.inl rfl) rfl (yc_store rfl sz26_Ti rfl rfl (by repeat (first | exact UpdF.here | apply UpdF.there | apply UpdF.thereS)) (.inr ⟨rfl, rfl⟩) rfl (by first | exact Nat.le_of_ble_eq_true rfl | simp) (by decide) rfl) ?_
    rintro ⟨⟩
    refine VL.nil ?_
    refine VE.then_wp ?_
    refine V.ret ?_
    refine retC rfl (rv_cellS rfl Try.underlying26 sz26_Ti (by first | exact Sees.root (by assumption) | exact Sees.own (by repeat (first | exact List.mem_cons_self | exact List.mem_append_left _ (by assumption) | apply List.mem_cons_of_mem | apply List.mem_append_right)) | exact Sees.root (hR _ (by omega)) | exact Sees.own (RowsIn.mem (by repeat (first | exact RowsIn.here | exact RowsIn.last | apply RowsIn.there | apply RowsIn.thereS)) _ (by omega)) | exact Sees.own (WRowsIn.mem (by repeat (first | exact WRowsIn.here | exact WRowsIn.last | apply WRowsIn.there | apply WRowsIn.thereS)) _ (by omega))) rfl rfl rfl) (by nofun) (fun w1 hw => ?_)
    obtain hi8 : i = xs9.length := by omega
    refine ⟨⟨(((a9, c9), (d9, e9), (f9, g9)), (xs, ys9, zs9), xs9.length), he9.cd hlx9 (fun k hk => hr9 k (by omega))⟩, ?_, (hw.pick (by apply Pick.cons1; (· repeat (first | exact Rem.here | exact Rem.all | exact Rem.hereS | apply Rem.there | apply Rem.thereS)); apply Pick.cons1; (· repeat (first | exact Rem.here | exact Rem.all | exact Rem.hereS | apply Rem.there | apply Rem.thereS)); apply Pick.cons1; (· repeat (first | exact Rem.here | exact Rem.all | exact Rem.hereS | apply Rem.there | apply Rem.thereS)); exact Pick.nil)).outs (List.Sublist.refl _)⟩
    show Value.agg #[.slice a9 xs9.length c9, .slice d9 ys9.length e9, .slice f9 zs9.length g9] = .agg #[.slice a9 xs9.length c9, .slice d9 xs9.length e9, .slice f9 (xs9.length * xs9.length) g9]
    rw [← he9.z.len, ← hv9]

end Go.Proofs.Ytpoigbpaeniikaa

