/- Own texts of this claim, merged: Sr, Sg, Ha, Hb, Hc, Hd, He, Le, Hf, Hg, Hh, Hi, We, Hj, Hk. -/

import Derived.Test.YtgeflnjjppgooaaKFnFitted8
namespace Go.Proofs.Ytgeflnjjppgooaa
open Go.RowKit
set_option maxRecDepth 20000
theorem rootFrom_spec (n : Nat) : ∀ (todo root : Nat), root * root ≤ n → n < (root + 2 ^ todo) * (root + 2 ^ todo) →
    Ieee.Datum.rootFrom n todo root * Ieee.Datum.rootFrom n todo root ≤ n ∧ n < (Ieee.Datum.rootFrom n todo root + 1) * (Ieee.Datum.rootFrom n todo root + 1)
  | 0, root, h1, h2 => by simpa [Ieee.Datum.rootFrom] using And.intro h1 h2
  | todo + 1, root, h1, h2 => by
    simp only [Ieee.Datum.rootFrom, Nat.shiftLeft_eq, Nat.one_mul]
    split
    · rename_i h
      exact rootFrom_spec n todo (root + 2 ^ todo) h (by rw [Nat.add_assoc, ← Nat.mul_two, ← Nat.pow_succ]; exact h2)
    · rename_i h
      exact rootFrom_spec n todo root h1 (by omega)
theorem root_start (n : Nat) : n < (0 + 2 ^ (n.log2 / 2 + 1)) * (0 + 2 ^ (n.log2 / 2 + 1)) := by
  rw [Nat.zero_add, ← Nat.pow_add]
  exact Nat.lt_of_lt_of_le Nat.lt_log2_self (Nat.pow_le_pow_right (by decide) (by omega))
theorem le_of_sq {a b : Nat} (h : a * a ≤ b * b) : a ≤ b := by
  rcases Nat.lt_or_ge b a with h1 | h1
  · exact absurd h (Nat.not_le.2 (Nat.mul_lt_mul_of_lt_of_le h1 (Nat.le_of_lt h1) (by omega)))
  · exact h1
theorem lt_of_sq {a b : Nat} (h : a * a < b * b) : a < b := by
  rcases Nat.lt_or_ge a b with h1 | h1
  · exact h1
  · exact absurd h (Nat.not_lt.2 (Nat.mul_le_mul h1 h1))
/-- The root in doubles, in units: w is the root cut down, u the step behind it. -/
theorem er_sqrt64 {y P c : Nat} {V : Int} (hP : P = 1074) (hc : c ≤ 1900) (hy : apd y V) (hV : 0 ≤ V) (hb : V.natAbs * 2 ^ P ≤ (2 ^ 52 * 2 ^ c) * (2 ^ 52 * 2 ^ c)) :
    ∃ (Z w u : Nat), apd (fsqrt y) (Z : Int) ∧ w * w ≤ V.natAbs * 2 ^ P ∧ V.natAbs * 2 ^ P ≤ (w + u) * (w + u) ∧ Z ≤ w + 2 * 2 ^ c ∧ w + u ≤ Z + 2 * 2 ^ c ∧ (V = 0 → Z = 0) := by
  obtain ⟨m, e, a1, a2⟩ := read_number FloatKind.f64.format hy.1
  rw [hy.units] at a2
  by_cases h0 : m = 0
  · subst h0
    have hv : V.natAbs = 0 := by rw [← a2, Nat.zero_mul]
    have hV0 : V = 0 := by omega
    have hw : fsqrt y = FloatKind.f64.format.word (sgn FloatKind.f64.format y) 0 := by
      have e0 : fsqrt y = (((FloatKind.f64.format.read y).root 54).map FloatKind.f64.format.write).getD (qn .f64) := rfl
      rw [e0, a1]
      simp only [Ieee.Datum.root]
      rw [if_pos trivial, Option.map_some, Option.getD_some]
      show FloatKind.f64.format.nearest _ _ _ = _
      unfold Ieee.Format.nearest
      rw [if_pos rfl]
    refine ⟨0, 0, 0, ?_, Nat.zero_le _, by rw [hv, Nat.zero_mul]; exact Nat.zero_le _, Nat.zero_le _, Nat.zero_le _, fun _ => rfl⟩
    rw [hw]
    have := apd_word (sgn FloatKind.f64.format y) (r := 0) (by decide)
    rw [(units_zero FloatKind.f64.format).2 rfl] at this
    simpa using this
  · have hs : sgn FloatKind.f64.format y = false := by
      cases hs : sgn FloatKind.f64.format y with
      | false => rfl
      | true =>
        have h3 := hy.sgn.1 hs
        have h4 : V.natAbs = 0 := by omega
        rw [h4] at a2
        have h5 := Nat.mul_eq_zero.1 a2
        have h6 := pow_pos' e
        omega
    rw [hs] at a1
    have hm : m.log2 ≤ 52 := by
      have h3 := (decode_double_bound (x := y) (s := false) (m := m) (e := FloatKind.f64.format.leastPlace + (e : Int)) a1).1
      have := (Nat.log2_lt h0).2 h3
      omega
    obtain ⟨more0, hm0⟩ : ∃ k, k = 2 * 54 - m.log2 := ⟨_, rfl⟩
    obtain ⟨more, hmore⟩ : ∃ k, k = more0 + ((FloatKind.f64.format.leastPlace + (e : Int) - (more0 : Int)) % 2).toNat := ⟨_, rfl⟩
    have hmr : more ≤ 109 ∧ more0 ≤ more ∧ (FloatKind.f64.format.leastPlace + (e : Int) - (more : Int)) % 2 = 0 := by omega
    obtain ⟨hmr1, hmr2, hmr3⟩ := hmr
    obtain ⟨n, hn⟩ : ∃ n, n = m * 2 ^ more := ⟨_, rfl⟩
    obtain ⟨w1, w2⟩ := rootFrom_spec n (n.log2 / 2 + 1) 0 (by rw [Nat.zero_mul]; exact Nat.zero_le _) (root_start n)
    obtain ⟨whole, hwh⟩ : ∃ w, w = Ieee.Datum.rootFrom n (n.log2 / 2 + 1) 0 := ⟨_, rfl⟩
    rw [← hwh] at w1 w2
    obtain ⟨bit, hbit⟩ : ∃ b, b = (whole * whole != n).toNat := ⟨_, rfl⟩
    have hb1 : bit ≤ 1 := by rw [hbit]; cases (whole * whole != n) <;> decide
    rw [lp64] at hmr3
    obtain ⟨b, hbb⟩ : ∃ b : Nat, 2 * (b : Int) = 1072 + (e : Int) - (more : Int) := ⟨((1072 + (e : Int) - (more : Int)) / 2).toNat, by omega⟩
    -- in units
    have hu : n * (2 ^ (b + 1) * 2 ^ (b + 1)) = V.natAbs * 2 ^ P := by
      rw [hn, ← a2, Nat.mul_assoc, Nat.mul_assoc, ← Nat.pow_add, ← Nat.pow_add, ← Nat.pow_add]
      exact congrArg (fun k => m * 2 ^ k) (by omega)
    have hW1 : (whole * 2 ^ (b + 1)) * (whole * 2 ^ (b + 1)) ≤ V.natAbs * 2 ^ P := by
      rw [← hu, show (whole * 2 ^ (b + 1)) * (whole * 2 ^ (b + 1)) = whole * whole * (2 ^ (b + 1) * 2 ^ (b + 1)) by simp only [Nat.mul_assoc, Nat.mul_left_comm, Nat.mul_comm]]
      exact Nat.mul_le_mul_right _ w1
    have hW2 : V.natAbs * 2 ^ P ≤ (whole * 2 ^ (b + 1) + 2 ^ (b + 1)) * (whole * 2 ^ (b + 1) + 2 ^ (b + 1)) := by
      rw [← hu, show (whole * 2 ^ (b + 1) + 2 ^ (b + 1)) = (whole + 1) * 2 ^ (b + 1) by rw [Nat.add_mul, Nat.one_mul], show ((whole + 1) * 2 ^ (b + 1)) * ((whole + 1) * 2 ^ (b + 1)) = (whole + 1) * (whole + 1) * (2 ^ (b + 1) * 2 ^ (b + 1)) by simp only [Nat.mul_assoc, Nat.mul_left_comm, Nat.mul_comm]]
      exact Nat.mul_le_mul_right _ (Nat.le_of_lt w2)
    have hwb : whole * 2 ^ (b + 1) ≤ 2 ^ 52 * 2 ^ c := le_of_sq (Nat.le_trans hW1 hb)
    have hwl : 2 ^ 53 ≤ whole := by
      have h3 : 2 ^ 108 ≤ n := by
        have h4 := Nat.log2_self_le h0
        rw [hn]
        calc 2 ^ 108 ≤ 2 ^ (m.log2 + more) := Nat.pow_le_pow_right (by decide) (by omega)
          _ = 2 ^ m.log2 * 2 ^ more := by rw [← Nat.pow_add]
          _ ≤ _ := Nat.mul_le_mul_right _ h4
      have h5 : (2 ^ 54) * (2 ^ 54) < (whole + 1) * (whole + 1) := Nat.lt_of_le_of_lt (by decide : (2 ^ 54) * (2 ^ 54) ≤ 2 ^ 108) (Nat.lt_of_le_of_lt h3 w2)
      have h6 := lt_of_sq h5
      have h7 : (2 : Nat) ^ 53 ≤ 2 ^ 54 := by decide
      omega
    have hU : 2 ^ (b + 1) ≤ 2 ^ c := by
      have h3 : 2 ^ 52 * 2 ^ (b + 1) ≤ 2 ^ 52 * 2 ^ c := Nat.le_trans (Nat.mul_le_mul_right _ (Nat.le_trans (by decide) hwl)) hwb
      exact Nat.le_of_mul_le_mul_left h3 (by decide)
    have hpb : 2 ^ (b + 1) = 2 * 2 ^ b := by rw [Nat.pow_succ, Nat.mul_comm]
    have hbm : bit * 2 ^ b ≤ 2 ^ b := by
      have := Nat.mul_le_mul_right (2 ^ b) hb1
      rwa [Nat.one_mul] at this
    have hM : (2 * whole + bit) * 2 ^ b = whole * 2 ^ (b + 1) + bit * 2 ^ b := by rw [Nat.add_mul, hpb]; simp only [Nat.mul_assoc, Nat.mul_comm]
    obtain ⟨r, r1, r2, r3, r4⟩ := er_core64 false (m := 2 * whole + bit) (a := 0) (b := b) (c := c) (e := (FloatKind.f64.format.leastPlace + (e : Int) - (more : Int)) / 2 - 1) hc (by rw [lp64]; omega) (by
      rw [Nat.pow_zero, Nat.mul_one, hM]
      have h3 : (2 : Nat) ^ 53 = 2 ^ 52 + 2 ^ 52 := by decide
      rw [h3, Nat.add_mul]
      have h4 : 2 ^ c ≤ 2 ^ 52 * 2 ^ c := Nat.le_mul_of_pos_left _ (by decide)
      omega)
    rw [Nat.pow_zero, Nat.mul_one, Nat.mul_one, hM] at r3 r4
    have hw : fsqrt y = FloatKind.f64.format.word false r := by
      have e0 : fsqrt y = (((FloatKind.f64.format.read y).root 54).map FloatKind.f64.format.write).getD (qn .f64) := rfl
      rw [e0, a1]
      simp only [Ieee.Datum.root, if_neg h0, Bool.false_eq_true, if_false, Option.map_some, Option.getD_some, ← hm0, ← hmore, shl_eq, ← hn, ← hwh, ← hbit]
      exact r1
    refine ⟨units FloatKind.f64.format r, whole * 2 ^ (b + 1), 2 ^ (b + 1), ?_, hW1, hW2, by omega, by omega, fun h => ?_⟩
    · rw [hw]
      have := apd_word false r2
      simpa using this
    · rw [h] at a2
      have h5 := Nat.mul_eq_zero.1 (show m * 2 ^ e = 0 from a2)
      have h6 := pow_pos' e
      omega
attribute [local irreducible] D9 D7 UU WW W9
section
variable {x : Nat} {v K : Rat} {k : Nat}
theorem rsq_mono {a b : Rat} (h0 : 0 ≤ a) (h : a ≤ b) : a * a ≤ b * b := by
  have h1 := Rat.mul_le_mul_of_nonneg_right h h0
  have h2 := Rat.mul_le_mul_of_nonneg_left h (Rat.le_trans h0 h)
  grind
theorem rsq_le {a b : Rat} (hb : 0 ≤ b) (h : a * a ≤ b * b) : a ≤ b := by
  rcases (Rat.le_total : a ≤ b ∨ b ≤ a) with h1 | h1
  · exact h1
  · have h3 := rsq_mono hb h1
    have h4 : a * a = b * b := by grind
    have h5 : (a - b) * (a + b) = 0 := by grind
    rcases Rat.mul_eq_zero.1 h5 with h6 | h6
    · grind
    · grind
theorem qv_up {q : Rat} (h : qv x q) : dv (up x) q := by
  obtain ⟨X, hX, eX⟩ := h
  have h2 := apd_up hX
  rw [D9_is] at h2
  refine ⟨_, h2, ?_⟩
  have : ((X * ((D9 : Nat) : Int) : Int) : Rat) = (X : Rat) * ((D9 : Nat) : Rat) := by rw [Rat.intCast_mul]; rfl
  rw [this, eX]
  unfold W9
  grind
theorem qv_sqrt (hK : pw2 k K) (hk : k ≤ 60) (hx : qv x v) (h0 : 0 ≤ v) (h : v ≤ K * K) :
    ∃ z ω, qv (sqrt32 x) z ∧ 0 ≤ ω ∧ ω * ω ≤ v ∧ z ≤ ω + K / 4194304 ∧ 0 ≤ z + K / 4194304 ∧ v ≤ (z + K / 4194304) * (z + K / 4194304) := by
  obtain ⟨V, h1, h2⟩ := qv_up hx
  obtain ⟨P, hP⟩ : ∃ P : Nat, P = 1074 := ⟨_, rfl⟩
  have hp := W9_pos
  have e1 := W9_pow hP
  obtain ⟨c, hc⟩ : ∃ c : Nat, c + 52 = P + k := ⟨P + k - 52, by omega⟩
  have hV : 0 ≤ V := by
    have := Rat.mul_nonneg h0 (Rat.le_of_lt hp)
    rw [← h2] at this
    exact Rat.intCast_le_intCast.1 this
  have hK0 := pw2_nn hK
  have e2 : ((2 ^ 52 * 2 ^ c : Nat) : Rat) = K * W9 := by
    rw [hK, e1, ← Rat.natCast_mul, ← Nat.pow_add, ← Nat.pow_add]
    congr 2; omega
  have e3 : ((2 ^ c : Nat) : Rat) = K * W9 / 4503599627370496 := by
    rw [Rat.natCast_mul] at e2
    have : ((2 ^ 52 : Nat) : Rat) = 4503599627370496 := by rfl
    rw [this] at e2
    grind
  have hVn : ((V.natAbs : Nat) : Rat) = v * W9 := by
    rw [← h2]
    have h3 : ((V.natAbs : Nat) : Int) = V := by omega
    exact congrArg (fun z : Int => (z : Rat)) h3
  have hpp := Rat.mul_pos hp hp
  obtain ⟨Z, w, u, z1, z2, z3, z4, z5, _⟩ := er_sqrt64 hP (c := c) (by omega) h1 hV (nat_of_q (by
    rw [Rat.natCast_mul, Rat.natCast_mul (2 ^ 52 * 2 ^ c), e2, hVn, ← e1]
    have := Rat.mul_le_mul_of_nonneg_right h (Rat.le_of_lt hpp)
    grind))
  have q2 : ((w * w : Nat) : Rat) ≤ ((V.natAbs * 2 ^ P : Nat) : Rat) := Rat.natCast_le_natCast.2 z2
  have q3 : ((V.natAbs * 2 ^ P : Nat) : Rat) ≤ (((w + u) * (w + u) : Nat) : Rat) := Rat.natCast_le_natCast.2 z3
  have q4 : ((Z : Nat) : Rat) ≤ ((w + 2 * 2 ^ c : Nat) : Rat) := Rat.natCast_le_natCast.2 z4
  have q5 : ((w + u : Nat) : Rat) ≤ ((Z + 2 * 2 ^ c : Nat) : Rat) := Rat.natCast_le_natCast.2 z5
  simp only [Rat.natCast_mul, Rat.natCast_add, hVn, e3, ← e1] at q2 q3 q4 q5
  have hw0 : (0 : Rat) ≤ ((w : Nat) : Rat) := Rat.natCast_nonneg
  have hu0 : (0 : Rat) ≤ ((u : Nat) : Rat) := Rat.natCast_nonneg
  have hZ0 : (0 : Rat) ≤ ((Z : Nat) : Rat) := Rat.natCast_nonneg
  have h22 : ((2 : Nat) : Rat) = 2 := rfl
  rw [h22] at q4 q5
  obtain ⟨ω, hω⟩ : ∃ ω : Rat, ((w : Nat) : Rat) = ω * W9 := ⟨((w : Nat) : Rat) / W9, by grind⟩
  obtain ⟨υ, hυ⟩ : ∃ υ : Rat, ((u : Nat) : Rat) = υ * W9 := ⟨((u : Nat) : Rat) / W9, by grind⟩
  obtain ⟨ζ, hζ⟩ : ∃ ζ : Rat, ((Z : Nat) : Rat) = ζ * W9 := ⟨((Z : Nat) : Rat) / W9, by grind⟩
  rw [hω] at q2 q3 q4 q5 hw0
  rw [hυ] at q3 q5 hu0
  rw [hζ] at q4 q5 hZ0
  have a0 : 0 ≤ ω := Rat.le_of_mul_le_mul_right (c := W9) (by rw [Rat.zero_mul]; exact hw0) hp
  have a1 : 0 ≤ υ := Rat.le_of_mul_le_mul_right (c := W9) (by rw [Rat.zero_mul]; exact hu0) hp
  have a2 : 0 ≤ ζ := Rat.le_of_mul_le_mul_right (c := W9) (by rw [Rat.zero_mul]; exact hZ0) hp
  have b2 : ω * ω ≤ v := Rat.le_of_mul_le_mul_right (c := W9 * W9) (by grind) hpp
  have b3 : v ≤ (ω + υ) * (ω + υ) := Rat.le_of_mul_le_mul_right (c := W9 * W9) (by grind) hpp
  have b4 : ζ ≤ ω + 2 * (K / 4503599627370496) := Rat.le_of_mul_le_mul_right (c := W9) (by grind) hp
  have b5 : ω + υ ≤ ζ + 2 * (K / 4503599627370496) := Rat.le_of_mul_le_mul_right (c := W9) (by grind) hp
  have hωK : ω ≤ K := rsq_le hK0 (Rat.le_trans b2 h)
  have hdv : dv (fsqrt (up x)) ζ := ⟨(Z : Int), z1, by rw [← hζ]; rfl⟩
  obtain ⟨_, z, g1, g2, g3⟩ := dv_narrow (pw2_mul 1 (J := 2) rfl hK) (by omega) hdv (by grind) (by grind)
  refine ⟨z, ω, g1, a0, b2, by grind, by grind, Rat.le_trans b3 (rsq_mono (by grind) (by grind))⟩
end
end Go.Proofs.Ytgeflnjjppgooaa

namespace Go.Proofs.Ytgeflnjjppgooaa
open Go.RowKit
set_option maxRecDepth 20000
attribute [local irreducible] D9 D7 UU WW W9
def u24 : Rat := 1 / 16777216
theorem ex_pw2 {v : Rat} (h0 : 0 ≤ v) : ∀ n : Nat, v ≤ ((2 ^ n : Nat) : Rat) → ∃ k K, pw2 k K ∧ k ≤ n ∧ v ≤ K ∧ K ≤ 1 + 2 * v
  | 0, h => ⟨0, 1, rfl, Nat.le_refl _, h, by grind⟩
  | n + 1, h => by
    by_cases h1 : v ≤ ((2 ^ n : Nat) : Rat)
    · obtain ⟨k, K, a, b, c, d⟩ := ex_pw2 h0 n h1
      exact ⟨k, K, a, by omega, c, d⟩
    · refine ⟨n + 1, ((2 ^ (n + 1) : Nat) : Rat), rfl, Nat.le_refl _, h, ?_⟩
      rw [Nat.pow_succ, Rat.natCast_mul]
      have : ((2 : Nat) : Rat) = 2 := rfl
      rw [this]
      grind
theorem big60 {B : Rat} (h : B ≤ 1000000000000000000) : B ≤ ((2 ^ 60 : Nat) : Rat) := by
  have : ((2 ^ 60 : Nat) : Rat) = 1152921504606846976 := by rfl
  rw [this]; grind
section
variable {x y : Nat} {p q v w A B E F G : Rat}
theorem Rg.nn (h : Rg p B) : 0 ≤ B := by obtain ⟨h1, h2⟩ := h; grind
theorem rd_add (hx : qv x p) (hy : qv y q) (h : Rg (p + q) B) (hB : B ≤ 1000000000000000000) : ∃ z, qv (fop .add .f32 x y) z ∧ Rg (z - (p + q)) ((1 + 2 * B) * u24) := by
  obtain ⟨k, K, a, b, c, d⟩ := ex_pw2 h.nn 60 (big60 hB)
  obtain ⟨h1, h2⟩ := h
  obtain ⟨z, z1, z2, z3⟩ := qv_add a (by omega) hx hy (by grind) (by grind)
  refine ⟨z, z1, ?_⟩
  unfold u24 Rg
  constructor <;> grind
theorem rd_sub (hx : qv x p) (hy : qv y q) (h : Rg (p - q) B) (hB : B ≤ 1000000000000000000) : ∃ z, qv (fop .sub .f32 x y) z ∧ Rg (z - (p - q)) ((1 + 2 * B) * u24) := by
  obtain ⟨k, K, a, b, c, d⟩ := ex_pw2 h.nn 60 (big60 hB)
  obtain ⟨h1, h2⟩ := h
  obtain ⟨z, z1, z2, z3⟩ := qv_sub a (by omega) hx hy (by grind) (by grind)
  refine ⟨z, z1, ?_⟩
  unfold u24 Rg
  constructor <;> grind
theorem rd_mul (hx : qv x p) (hy : qv y q) (h : Rg (p * q) B) (hB : B ≤ 1000000000000000000) : ∃ z, qv (fop .mul .f32 x y) z ∧ Rg (z - p * q) ((1 + 2 * B) * u24) := by
  obtain ⟨k, K, a, b, c, d⟩ := ex_pw2 h.nn 60 (big60 hB)
  obtain ⟨h1, h2⟩ := h
  obtain ⟨z, z1, z2, z3⟩ := qv_mul a (by omega) hx hy (by grind) (by grind)
  refine ⟨z, z1, ?_⟩
  unfold u24 Rg
  constructor <;> grind
theorem qv_quo {K : Rat} {k : Nat} (hK : pw2 k K) (hk : k ≤ 70) (hx : qv x p) (hy : qv y q) (hq : 0 < q) (h1 : -(K * q) ≤ 2 * p) (h2 : 2 * p ≤ K * q) : ∃ z, qv (fop .quo .f32 x y) z ∧ p - 2 * K * u24 * q ≤ z * q ∧ z * q ≤ p + 2 * K * u24 * q := by
  obtain ⟨X, hX, eX⟩ := hx
  obtain ⟨Y, hY, eY⟩ := hy
  obtain ⟨J, hJ, rfl⟩ := pw2_int hK
  have hw := WW_is
  have hp := WW_pos
  have hY0 : 0 < Y := by
    have := Rat.mul_pos hq hp
    rw [← eY] at this
    exact (Rat.intCast_lt_intCast (a := 0)).1 this
  obtain ⟨Z, z1, z2, z3⟩ := er_quo k hJ hk hX hY hY0
    (i_of_q (a := -((J : Rat) * q)) (b := 2 * p) (by push_cast; grind) (by push_cast; grind) h1) (i_of_q (a := 2 * p) (b := (J : Rat) * q) (by push_cast; grind) (by push_cast; grind) h2)
  refine ⟨(Z : Rat) / WW, ⟨Z, z1, by grind⟩, q_of_i2 ?_ ?_ z2, q_of_i2 ?_ ?_ z3⟩
  · unfold u24; push_cast; grind
  · push_cast; grind
  · push_cast; grind
  · unfold u24; push_cast; grind
theorem rd_quo (hx : qv x p) (hy : qv y q) (hq : 0 < q) (h1 : -(B * q) ≤ p) (h2 : p ≤ B * q) (h0 : 0 ≤ B) (hB : 2 * B ≤ 1000000000000000000) : ∃ z, qv (fop .quo .f32 x y) z ∧ p - 2 * (1 + 4 * B) * u24 * q ≤ z * q ∧ z * q ≤ p + 2 * (1 + 4 * B) * u24 * q := by
  obtain ⟨k, K, a, b, c, d⟩ := ex_pw2 (v := 2 * B) (by grind) 60 (big60 hB)
  have e1 := Rat.mul_le_mul_of_nonneg_right c (Rat.le_of_lt hq)
  obtain ⟨z, z1, z2, z3⟩ := qv_quo a (by omega) hx hy hq (by grind) (by grind)
  have e2 := Rat.mul_le_mul_of_nonneg_right d (Rat.le_of_lt hq)
  refine ⟨z, z1, ?_, ?_⟩
  · unfold u24 at *; grind
  · unfold u24 at *; grind
end
section
variable {a b p r s : V3} {a1 a2 a3 b1 b2 b3 p1 p2 p3 r1 r2 r3 s1 s2 s3 A E : Rat}
end
end Go.Proofs.Ytgeflnjjppgooaa

namespace Go.Proofs.Ytgeflnjjppgooaa
open Go.RowKit
set_option maxRecDepth 20000
attribute [local irreducible] D9 D7 UU WW W9
def ab (p : Rat) : Rat := if 0 ≤ p then p else -p
theorem rg_ab (p : Rat) : Rg p (ab p) := by unfold ab Rg; split <;> constructor <;> grind
theorem ab_le {p B : Rat} (h : Rg p B) : ab p ≤ B := by obtain ⟨h1, h2⟩ := h; unfold ab; split <;> grind
theorem ab_nn (p : Rat) : 0 ≤ ab p := (rg_ab p).nn
theorem u24_0 : 0 ≤ u24 := by decide +kernel
section
variable {x y aw lw zw bw yw : Nat} {p q v A B C D E l a b z M : Rat}
theorem ad_sub (hx : qv x p) (hy : qv y q) (h : Rg (p - q) C) (hC : C ≤ 1000000000000000000) : ∃ z, qv (fop .sub .f32 x y) z ∧ ∀ B, Rg (p - q) B → Rg (z - (p - q)) ((1 + 2 * B) * u24) := by
  have h1 := ab_le h
  obtain ⟨z, z1, z2⟩ := rd_sub hx hy (rg_ab (p - q)) (Rat.le_trans h1 hC)
  refine ⟨z, z1, fun B hB => z2.mono (Rat.mul_le_mul_of_nonneg_right ?_ u24_0)⟩
  have := ab_le hB
  grind
theorem ad_mul (hx : qv x p) (hy : qv y q) (h : Rg (p * q) C) (hC : C ≤ 1000000000000000000) : ∃ z, qv (fop .mul .f32 x y) z ∧ ∀ B, Rg (p * q) B → Rg (z - p * q) ((1 + 2 * B) * u24) := by
  have h1 := ab_le h
  obtain ⟨z, z1, z2⟩ := rd_mul hx hy (rg_ab (p * q)) (Rat.le_trans h1 hC)
  refine ⟨z, z1, fun B hB => z2.mono (Rat.mul_le_mul_of_nonneg_right ?_ u24_0)⟩
  have := ab_le hB
  grind
theorem ad_quo (hx : qv x p) (hy : qv y q) (hq : 0 < q) (h : Rg p (C * q)) (hC : C ≤ 500000000000000000) : ∃ z, qv (fop .quo .f32 x y) z ∧ Rg (z * q - p) (2 * (1 + 4 * C) * u24 * q) ∧ ∀ Z, Rg z Z → Rg (z * q - p) ((3 + 9 * Z) * u24 * q) := by
  obtain ⟨B, hB⟩ : ∃ B, B * q = ab p := ⟨ab p / q, by rw [Rat.div_mul_cancel]; intro h; rw [h] at hq; exact absurd hq (by decide)⟩
  have hp := rg_ab p
  have h0 : 0 ≤ B := Rat.le_of_mul_le_mul_right (c := q) (by rw [Rat.zero_mul, hB]; exact ab_nn p) hq
  have hBC : B ≤ C := Rat.le_of_mul_le_mul_right (c := q) (by rw [hB]; exact ab_le h) hq
  rw [← hB] at hp
  obtain ⟨z, z1, z2, z3⟩ := rd_quo hx hy hq hp.1 hp.2 h0 (by grind)
  have hm : ∀ U V : Rat, U ≤ V → U * u24 * q ≤ V * u24 * q := fun U V huv => Rat.mul_le_mul_of_nonneg_right (Rat.mul_le_mul_of_nonneg_right huv u24_0) (Rat.le_of_lt hq)
  have hr : Rg (z * q - p) (2 * (1 + 4 * B) * u24 * q) := ⟨by grind, by grind⟩
  refine ⟨z, z1, hr.mono (hm _ _ (by grind)), fun Z hZ => hr.mono (hm _ _ ?_)⟩
  have k1 : B * q ≤ (Z + 2 * (1 + 4 * B) * u24) * q := by
    rw [hB]
    refine ab_le ⟨?_, ?_⟩
    · have := Rat.mul_le_mul_of_nonneg_right hZ.1 (Rat.le_of_lt hq)
      obtain ⟨r1, r2⟩ := hr; grind
    · have := Rat.mul_le_mul_of_nonneg_right hZ.2 (Rat.le_of_lt hq)
      obtain ⟨r1, r2⟩ := hr; grind
  have k2 := Rat.le_of_mul_le_mul_right k1 hq
  have hz := hZ.nn
  unfold u24 at k2
  grind
/-- A diagonal number of the triangle. -/
theorem h_root (hx : qv x v) (h1 : 49 / 100 ≤ v) (h2 : v ≤ 81) : ∃ z, qv (sqrt32 x) z ∧ 69 / 100 ≤ z ∧ z ≤ 901 / 100 ∧ Rg (z * z - v) (1 / 12000) := by
  obtain ⟨z, ω, x1, x2, x3, x4, x5, x6⟩ := qv_sqrt (k := 4) (K := 16) rfl (by decide) hx (by grind) (by grind)
  have hω : ω ≤ 9 := rsq_le (by decide +kernel) (by grind)
  have hδ : (16 : Rat) / 4194304 = 1 / 262144 := by decide +kernel
  rw [hδ] at x4 x5 x6
  have k1 : 7 / 10 ≤ z + 1 / 262144 := rsq_le x5 (by grind)
  have hz : z ≤ 901 / 100 := by grind
  have k2 : z * z ≤ (ω + 1 / 262144) * (ω + 1 / 262144) := rsq_mono (by grind) x4
  refine ⟨z, x1, by grind, hz, ?_, ?_⟩
  · have e : (z + 1 / 262144) * (z + 1 / 262144) = z * z + 2 / 262144 * z + 1 / 262144 * (1 / 262144) := by grind
    rw [e] at x6
    grind
  · have e : (ω + 1 / 262144) * (ω + 1 / 262144) = ω * ω + 2 / 262144 * ω + 1 / 262144 * (1 / 262144) := by grind
    rw [e] at k2
    grind
theorem rg_lin (h : Rg E B) (hq : 0 ≤ q) : -(B * q) ≤ E * q ∧ E * q ≤ B * q := by
  have h1 := Rat.mul_le_mul_of_nonneg_right h.1 hq
  have h2 := Rat.mul_le_mul_of_nonneg_right h.2 hq
  exact ⟨by grind, h2⟩
theorem sq_nn (p : Rat) : 0 ≤ p * p := by
  rcases (Rat.le_total : 0 ≤ p ∨ p ≤ 0) with h | h
  · exact Rat.mul_nonneg h h
  · have := Rat.mul_nonneg (a := -p) (b := -p) (by grind) (by grind)
    grind
theorem rg_cross {s t : Rat} (h : Rg E B) : -(B * (s * s + t * t)) ≤ E * (2 * (s * t)) ∧ E * (2 * (s * t)) ≤ B * (s * s + t * t) := by
  obtain ⟨h1, h2⟩ := h
  have a1 := Rat.mul_nonneg (show 0 ≤ B - E by grind) (sq_nn (s + t))
  have a2 := Rat.mul_nonneg (show 0 ≤ B + E by grind) (sq_nn (s - t))
  have a3 := Rat.mul_nonneg (show 0 ≤ B - E by grind) (sq_nn (s - t))
  have a4 := Rat.mul_nonneg (show 0 ≤ B + E by grind) (sq_nn (s + t))
  constructor <;> grind
/-- A number of the first column, and what is left of its diagonal. -/
theorem h_col (hl : qv lw l) (l1 : 69 / 100 ≤ l) (l2 : l ≤ 901 / 100) (hE : Rg (l * l - A) (1 / 12000)) (ha : qv aw a) (hr : Rg a 81) (hD : D ≤ 81)
    (hp : ∀ s t, (s * s + t * t) / 2 ≤ A * (s * s) + 2 * (a * (s * t)) + D * (t * t)) :
    ∃ z, qv (fop .quo .f32 aw lw) z ∧ Rg z 9 ∧ Rg (z * l - a) (1 / 20000) ∧ 499 / 1000 ≤ D - z * z ∧ D - z * z ≤ 81 := by
  have l0 : 0 < l := by grind
  obtain ⟨z, z1, z2, z3⟩ := ad_quo (C := 120) ha hl l0 (hr.mono (by grind)) (by decide +kernel)
  have hu : 2 * (1 + 4 * 120) * u24 * l ≤ 1 / 1900 := by unfold u24; grind
  obtain ⟨g, hg⟩ : ∃ g, g * l = z := ⟨z / l, by rw [Rat.div_mul_cancel]; intro h; rw [h] at l0; exact absurd l0 (by decide)⟩
  obtain ⟨ε, hε⟩ : ∃ ε, ε = z * l - a := ⟨_, rfl⟩
  obtain ⟨e, he⟩ : ∃ e, e = l * l - A := ⟨_, rfl⟩
  have q1 := hp (-g) 1
  have hε2 : Rg ε (1 / 1900) := by rw [hε]; exact z2.mono hu
  have hsq := rmul hε2 hε2
  have e1 : A * (-g * -g) + 2 * (a * (-g * 1)) + D * (1 * 1) = D - z * z - e * (g * g) + 2 * (ε * g) := by
    rw [← hg] at hε ⊢
    grind
  rw [e1] at q1
  have hge := rg_lin (B := 1 / 12000) (E := e) (q := g * g) (by rw [he]; exact hE) (sq_nn g)
  have h3 := sq_nn (2 * ε - g / 2)
  have hk : 499 / 1000 ≤ D - z * z := by
    have h4 : 2 * (ε * g) ≤ 4 * (ε * ε) + g * g / 4 := by grind
    obtain ⟨_, h5⟩ := hsq
    have h6 := sq_nn g
    grind
  have h9 : Rg z 9 := by
    have h8 : z * z ≤ 81 := by grind
    constructor
    · have := rsq_le (a := -z) (b := 9) (by decide +kernel) (by grind)
      grind
    · exact rsq_le (by decide +kernel) (by grind)
  refine ⟨z, z1, h9, (z3 9 h9).mono ?_, hk, ?_⟩
  · unfold u24; grind
  · have := sq_nn z; grind
/-- What is left of a number when a product is taken away. -/
theorem h_take (ha : qv aw a) (hz : qv zw z) (hy : qv yw b) (h1 : Rg z 9) (h2 : Rg b 9) (hc : Rg (a - z * b) C) (hC : C ≤ 165) :
    ∃ d, qv (fop .sub .f32 aw (fop .mul .f32 zw yw)) d ∧ Rg (d - (a - z * b)) ((165 + 2 * C) * u24) := by
  have hm := rmul h1 h2
  have e81 : (9 : Rat) * 9 = 81 := by decide +kernel
  rw [e81] at hm
  obtain ⟨m, m1, m2⟩ := ad_mul hz hy hm (by decide +kernel)
  have m3 := m2 _ hm
  have hd : Rg (a - m) (C + 1 / 1000) := by
    have e : a - m = (a - z * b) - (m - z * b) := by grind
    rw [e]
    exact hc.sub (m3.mono (by decide +kernel))
  obtain ⟨d, d1, d2⟩ := ad_sub ha m1 hd (by grind)
  refine ⟨d, d1, ?_⟩
  have d3 := d2 _ hd
  have e : d - (a - z * b) = (d - (a - m)) - (m - z * b) := by grind
  rw [e]
  refine (d3.sub m3).mono ?_
  unfold u24; grind
end
end Go.Proofs.Ytgeflnjjppgooaa

namespace Go.Proofs.Ytgeflnjjppgooaa
open Go.RowKit
set_option maxRecDepth 20000
attribute [local irreducible] D9 D7 UU WW W9
/-- The numbers of a triangle: its product is the square, nearly. -/
structure Tri (A00 A10 A11 A20 A21 A22 l00 l10 l11 l20 l21 l22 : Rat) : Prop where
  d0 : 69 / 100 ≤ l00 ∧ l00 ≤ 901 / 100
  d1 : 69 / 100 ≤ l11 ∧ l11 ≤ 901 / 100
  d2 : 69 / 100 ≤ l22 ∧ l22 ≤ 901 / 100
  o10 : Rg l10 9
  o20 : Rg l20 9
  o21 : Rg l21 9
  e00 : Rg (l00 * l00 - A00) (1 / 8000)
  e10 : Rg (l10 * l00 - A10) (1 / 8000)
  e11 : Rg (l10 * l10 + l11 * l11 - A11) (1 / 8000)
  e20 : Rg (l20 * l00 - A20) (1 / 8000)
  e21 : Rg (l20 * l10 + l21 * l11 - A21) (1 / 8000)
  e22 : Rg (l20 * l20 + l21 * l21 + l22 * l22 - A22) (1 / 8000)
/-- A square whose least value is a half. -/
structure Sqr (A00 A10 A11 A20 A21 A22 : Rat) : Prop where
  psd : ∀ r s t : Rat, (r * r + s * s + t * t) / 2 ≤ A00 * (r * r) + A11 * (s * s) + A22 * (t * t) + 2 * (A10 * (r * s)) + 2 * (A20 * (r * t)) + 2 * (A21 * (s * t))
  b00 : A00 ≤ 161 / 2
  b11 : A11 ≤ 161 / 2
  b22 : A22 ≤ 161 / 2
  b10 : Rg A10 81
  b20 : Rg A20 81
  b21 : Rg A21 81
section
variable {A00 A10 A11 A20 A21 A22 : Rat} {a00 a10 a11 a20 a21 a22 : Nat}
def L0 (a00 : Nat) : Nat := sqrt32 a00
def L1 (a00 a10 : Nat) : Nat := fop .quo .f32 a10 (L0 a00)
def S1 (a00 a10 a11 : Nat) : Nat := fop .sub .f32 a11 (fop .mul .f32 (L1 a00 a10) (L1 a00 a10))
def L11 (a00 a10 a11 : Nat) : Nat := sqrt32 (S1 a00 a10 a11)
def L21 (a00 a10 a11 a20 a21 : Nat) : Nat := fop .quo .f32 (fop .sub .f32 a21 (fop .mul .f32 (L1 a00 a20) (L1 a00 a10))) (L11 a00 a10 a11)
def S2 (a00 a10 a11 a20 a21 a22 : Nat) : Nat := fop .sub .f32 (fop .sub .f32 a22 (fop .mul .f32 (L1 a00 a20) (L1 a00 a20))) (fop .mul .f32 (L21 a00 a10 a11 a20 a21) (L21 a00 a10 a11 a20 a21))
def L22 (a00 a10 a11 a20 a21 a22 : Nat) : Nat := sqrt32 (S2 a00 a10 a11 a20 a21 a22)
theorem one_0 : qv 0 0 := by
  have := qv_dy (dy_z (k := .f32))
  have e : ((0 : Int) : Rat) / 128 = 0 := by decide +kernel
  rwa [e] at this
theorem pos_gt {x : Nat} {v : Rat} (h : qv x v) (hv : 0 < v) : fcmp .gtr .f32 x 0 = true := qv_gt h one_0 hv
theorem sqr_p0 (h : Sqr A00 A10 A11 A20 A21 A22) : 1 / 2 ≤ A00 := by have := h.psd 1 0 0; grind
theorem sqr_p1 (h : Sqr A00 A10 A11 A20 A21 A22) (s t : Rat) : (s * s + t * t) / 2 ≤ A00 * (s * s) + 2 * (A10 * (s * t)) + A11 * (t * t) := by have := h.psd s t 0; grind
theorem sqr_p2 (h : Sqr A00 A10 A11 A20 A21 A22) (s t : Rat) : (s * s + t * t) / 2 ≤ A00 * (s * s) + 2 * (A20 * (s * t)) + A22 * (t * t) := by have := h.psd s 0 t; grind
/-- The first column's head. -/
theorem tri0 (h : Sqr A00 A10 A11 A20 A21 A22) (h00 : qv a00 A00) : ∃ l00, qv (L0 a00) l00 ∧ (69 / 100 ≤ l00 ∧ l00 ≤ 901 / 100) ∧ Rg (l00 * l00 - A00) (1 / 12000) := by
  obtain ⟨z, z1, z2, z3, z4⟩ := h_root h00 (by have := sqr_p0 h; grind) (by have := h.b00; grind)
  exact ⟨z, z1, ⟨z2, z3⟩, z4⟩
/-- The second column's head. -/
theorem tri1 (h : Sqr A00 A10 A11 A20 A21 A22) (h10 : qv a10 A10) (h11 : qv a11 A11) {l00 : Rat} (k1 : qv (L0 a00) l00) (k2 : 69 / 100 ≤ l00 ∧ l00 ≤ 901 / 100) (k3 : Rg (l00 * l00 - A00) (1 / 12000)) :
    ∃ l10 l11, qv (L1 a00 a10) l10 ∧ qv (L11 a00 a10 a11) l11 ∧ fcmp .gtr .f32 (S1 a00 a10 a11) 0 = true ∧ Rg l10 9 ∧ (69 / 100 ≤ l11 ∧ l11 ≤ 901 / 100) ∧ Rg (l10 * l00 - A10) (1 / 20000) ∧ Rg (l10 * l10 + l11 * l11 - A11) (1 / 9000) := by
  obtain ⟨z, z1, z2, z3, z4, z5⟩ := h_col k1 k2.1 k2.2 k3 h10 h.b10 (by have := h.b11; grind) (sqr_p1 h)
  obtain ⟨d, d1, d2⟩ := h_take (C := 81) h11 z1 z1 z2 z2 ⟨by grind, z5⟩ (by decide +kernel)
  have hu : (165 + 2 * 81) * u24 ≤ 1 / 50000 := by decide +kernel
  have d3 := d2.mono hu
  obtain ⟨d4, d5⟩ := d3
  have hd : 49 / 100 ≤ d := by grind
  have hd2 : d ≤ 81 := by have := sq_nn z; have := h.b11; grind
  obtain ⟨l, l1, l2, l3, l4⟩ := h_root d1 hd hd2
  refine ⟨z, l, z1, l1, pos_gt d1 (by grind), z2, ⟨l2, l3⟩, z3, ?_⟩
  obtain ⟨l4, l5⟩ := l4
  constructor <;> grind
/-- The third column's head. -/
theorem tri2 (h : Sqr A00 A10 A11 A20 A21 A22) (h20 : qv a20 A20) (h21 : qv a21 A21) (h22 : qv a22 A22) {l00 l10 l11 : Rat} (k1 : qv (L0 a00) l00) (k2 : 69 / 100 ≤ l00 ∧ l00 ≤ 901 / 100) (k3 : Rg (l00 * l00 - A00) (1 / 12000))
    (k4 : qv (L1 a00 a10) l10) (k5 : qv (L11 a00 a10 a11) l11) (k6 : Rg l10 9) (k7 : 69 / 100 ≤ l11 ∧ l11 ≤ 901 / 100) (k8 : Rg (l10 * l00 - A10) (1 / 20000)) (k9 : Rg (l10 * l10 + l11 * l11 - A11) (1 / 9000)) :
    ∃ l20 l21 l22, qv (L1 a00 a20) l20 ∧ qv (L21 a00 a10 a11 a20 a21) l21 ∧ qv (L22 a00 a10 a11 a20 a21 a22) l22 ∧ fcmp .gtr .f32 (S2 a00 a10 a11 a20 a21 a22) 0 = true ∧ Tri A00 A10 A11 A20 A21 A22 l00 l10 l11 l20 l21 l22 := by
  obtain ⟨x, x1, x2, x3, x4, x5⟩ := h_col k1 k2.1 k2.2 k3 h20 h.b20 (by have := h.b22; grind) (sqr_p2 h)
  -- the entry below the second head
  have hm := rmul x2 k6
  have e81 : (9 : Rat) * 9 = 81 := by decide +kernel
  rw [e81] at hm
  have hb := h.b21
  have hc : Rg (A21 - x * l10) 162 := (hb.sub hm).mono (by decide +kernel)
  obtain ⟨t, t1, t2⟩ := h_take h21 x1 k4 x2 k6 hc (by decide +kernel)
  have t3 := t2.mono (show _ ≤ (1 / 34000 : Rat) by decide +kernel)
  have ht : Rg t 163 := by
    have e : t = (A21 - x * l10) + (t - (A21 - x * l10)) := by grind
    rw [e]; exact (hc.add t3).mono (by decide +kernel)
  have l0 : 0 < l11 := by grind
  obtain ⟨z, z1, z2, z3⟩ := ad_quo (C := 240) t1 k5 l0 (ht.mono (by grind)) (by decide +kernel)
  have hu : 2 * (1 + 4 * 240) * u24 * l11 ≤ 1 / 960 := by unfold u24; grind
  have z4 : Rg (x * l10 + z * l11 - A21) (1 / 900) := by
    have e : x * l10 + z * l11 - A21 = (z * l11 - t) + (t - (A21 - x * l10)) := by grind
    rw [e]; exact ((z2.mono hu).add t3).mono (by decide +kernel)
  -- what is left of the third diagonal number
  obtain ⟨s, hs⟩ : ∃ s, s * l11 = -z := ⟨-z / l11, by rw [Rat.div_mul_cancel]; intro h; rw [h] at l0; exact absurd l0 (by decide)⟩
  have m0 : 0 < l00 := by grind
  obtain ⟨r, hr⟩ : ∃ r, r * l00 = -x - l10 * s := ⟨(-x - l10 * s) / l00, by rw [Rat.div_mul_cancel]; intro h; rw [h] at m0; exact absurd m0 (by decide)⟩
  have q := h.psd r s 1
  obtain ⟨E00, f00⟩ : ∃ E, E = l00 * l00 - A00 := ⟨_, rfl⟩
  obtain ⟨E10, f10⟩ : ∃ E, E = l10 * l00 - A10 := ⟨_, rfl⟩
  obtain ⟨E11, f11⟩ : ∃ E, E = l10 * l10 + l11 * l11 - A11 := ⟨_, rfl⟩
  obtain ⟨E20, f20⟩ : ∃ E, E = x * l00 - A20 := ⟨_, rfl⟩
  obtain ⟨E21, f21⟩ : ∃ E, E = x * l10 + z * l11 - A21 := ⟨_, rfl⟩
  have g00 := rg_lin (B := 1 / 900) (E := E00) (q := r * r) (by rw [f00]; exact k3.mono (by decide +kernel)) (sq_nn r)
  have g11 := rg_lin (B := 1 / 900) (E := E11) (q := s * s) (by rw [f11]; exact k9.mono (by decide +kernel)) (sq_nn s)
  have g10 := rg_cross (B := 1 / 900) (E := E10) (s := r) (t := s) (by rw [f10]; exact k8.mono (by decide +kernel))
  have g20 := rg_cross (B := 1 / 900) (E := E20) (s := r) (t := 1) (by rw [f20]; exact x3.mono (by decide +kernel))
  have g21 := rg_cross (B := 1 / 900) (E := E21) (s := s) (t := 1) (by rw [f21]; exact z4)
  have key : A00 * (r * r) + A11 * (s * s) + A22 * (1 * 1) + 2 * (A10 * (r * s)) + 2 * (A20 * (r * 1)) + 2 * (A21 * (s * 1))
      = (A22 - x * x - z * z) - (E00 * (r * r) + E11 * (s * s) + E10 * (2 * (r * s)) + E20 * (2 * (r * 1)) + E21 * (2 * (s * 1))) := by
    have a1 : (r * l00 + l10 * s + x) = 0 := by grind
    have a2 : s * l11 + z = 0 := by grind
    have a3 : (r * l00 + l10 * s + x) * (r * l00 + l10 * s + x) = 0 := by rw [a1]; decide +kernel
    have a4 : (s * l11 + z) * (s * l11 + z) = 0 := by rw [a2]; decide +kernel
    rw [f00, f10, f11, f20, f21]
    clear q g00 g11 g10 g20 g21 hs hr a1 a2
    grind
  rw [key] at q
  have hk : 49 / 100 + 1 / 200 ≤ A22 - x * x - z * z := by
    have h1 := sq_nn r
    have h2 := sq_nn s
    clear key f00 f10 f11 f20 f21 hs hr
    grind
  have hb2 := h.b22
  have hx0 := sq_nn x
  have hz0 := sq_nn z
  have h9 : Rg z 9 := by
    have h8 : z * z ≤ 81 := by grind
    constructor
    · have := rsq_le (a := -z) (b := 9) (by decide +kernel) (by grind)
      grind
    · exact rsq_le (by decide +kernel) (by grind)
  clear q key g00 g11 g10 g20 g21 f00 f10 f11 f20 f21 hs hr
  -- the third head
  obtain ⟨d, d1, d2⟩ := h_take (C := 81) h22 x1 x1 x2 x2 ⟨by grind, by grind⟩ (by decide +kernel)
  have hu2 : (165 + 2 * 81) * u24 ≤ 1 / 50000 := by decide +kernel
  have d3 := d2.mono hu2
  obtain ⟨d4, d5⟩ := d3
  obtain ⟨e, e1, e2⟩ := h_take (C := 82) d1 z1 z1 h9 h9 ⟨by grind, by grind⟩ (by decide +kernel)
  have hu3 : (165 + 2 * 82) * u24 ≤ 1 / 50000 := by decide +kernel
  have e3 := e2.mono hu3
  obtain ⟨e4, e5⟩ := e3
  obtain ⟨l, m1, m2, m3, m4⟩ := h_root e1 (by grind) (by grind)
  have z5 := (z3 9 h9).mono (show _ ≤ (1 / 20000 : Rat) by unfold u24; grind)
  refine ⟨x, z, l, x1, z1, m1, pos_gt e1 (by grind), ⟨k2, k7, ⟨m2, m3⟩, k6, x2, h9, k3.mono (by decide +kernel), k8.mono (by decide +kernel), k9.mono (by decide +kernel), x3.mono (by decide +kernel), ?_, ?_⟩⟩
  · have e : x * l10 + z * l11 - A21 = (z * l11 - t) + (t - (A21 - x * l10)) := by grind
    rw [e]; exact (z5.add t3).mono (by decide +kernel)
  · obtain ⟨m4, m5⟩ := m4
    constructor <;> grind
end
end Go.Proofs.Ytgeflnjjppgooaa

namespace Go.Proofs.Ytgeflnjjppgooaa
open Go.RowKit
set_option maxRecDepth 20000
attribute [local irreducible] D9 D7 UU WW W9
section
variable {bw lw yw : Nat} {b l y C C1 : Rat}
/-- A row's quotient. -/
theorem row_q (hb : qv bw b) (hl : qv lw l) (l1 : 69 / 100 ≤ l ∧ l ≤ 901 / 100) (hC : Rg b C) (hC2 : C ≤ 100000000000000000) : ∃ z, qv (fop .quo .f32 bw lw) z ∧ Rg z (2 * C + 1) ∧ ∀ Z, Rg z Z → Rg (z * l - b) ((28 + 82 * Z) * u24) := by
  have l0 : 0 < l := by grind
  have c0 := hC.nn
  have k1 := Rat.mul_le_mul_of_nonneg_left l1.1 c0
  have k2 := Rat.mul_le_mul_of_nonneg_left l1.2 c0
  obtain ⟨z, z1, z2, z3⟩ := ad_quo (C := 3 / 2 * C) hb hl l0 (hC.mono (by grind)) (by grind)
  refine ⟨z, z1, ?_, fun Z hZ => (z3 Z hZ).mono ?_⟩
  · have h1 : Rg (z * l) ((2 * C + 1) * l) := by
      have e : z * l = (z * l - b) + b := by grind
      rw [e]
      refine (z2.add hC).mono ?_
      unfold u24
      grind
    exact ⟨Rat.le_of_mul_le_mul_right (c := l) (by have := h1.1; grind) l0, Rat.le_of_mul_le_mul_right (c := l) (by have := h1.2; grind) l0⟩
  · have z0 := hZ.nn
    have k3 := Rat.mul_le_mul_of_nonneg_left l1.2 z0
    unfold u24
    grind
/-- A product taken away. -/
theorem row_s (hb : qv bw b) (hl : qv lw l) (hy : qv yw y) (hL : Rg l (901 / 100)) (hC : Rg b C) (h1 : Rg y C1) (hC2 : C ≤ 1000000000000000) (hC3 : C1 ≤ 1000000000000000) :
    ∃ d, qv (fop .sub .f32 bw (fop .mul .f32 lw yw)) d ∧ Rg d (2 * C + 10 * C1 + 1) ∧ ∀ Y B, Rg y Y → Rg b B → Rg (d - (b - l * y)) ((4 + 2 * B + 37 * Y) * u24) := by
  obtain ⟨m, m1, m2⟩ := ad_mul hl hy (rmul hL h1) (by grind)
  have m3 := m2 _ (rmul hL h1)
  have hm : Rg m (901 / 100 * C1 + (1 + 2 * (901 / 100 * C1)) * u24) := by
    have e : m = l * y + (m - l * y) := by grind
    rw [e]; exact (rmul hL h1).add m3
  have c0 := hC.nn
  have c1 := h1.nn
  obtain ⟨d, d1, d2⟩ := ad_sub hb m1 (hC.sub hm) (by unfold u24; grind)
  refine ⟨d, d1, ?_, fun Y B hY hB => ?_⟩
  · have d3 := d2 _ (hC.sub hm)
    have e : d = (b - m) + (d - (b - m)) := by grind
    rw [e]
    refine ((hC.sub hm).add d3).mono ?_
    unfold u24; grind
  · have p1 := rmul hL hY
    have p2 := m2 _ p1
    have p3 : Rg m (901 / 100 * Y + (1 + 2 * (901 / 100 * Y)) * u24) := by
      have e : m = l * y + (m - l * y) := by grind
      rw [e]; exact p1.add p2
    have p4 := d2 _ (hB.sub p3)
    have e : d - (b - l * y) = (d - (b - m)) - (m - l * y) := by grind
    rw [e]
    have y0 := hY.nn
    have b0 := hB.nn
    refine (p4.sub p2).mono ?_
    unfold u24; grind
end
section
variable {A00 A10 A11 A20 A21 A22 l00 l10 l11 l20 l21 l22 b0 b1 b2 x0 x1 x2 y0 y1 y2 p1 p2 M c : Rat}
theorem max3 (x0 x1 x2 : Rat) : ∃ M, Rg x0 M ∧ Rg x1 M ∧ Rg x2 M ∧ M * M ≤ x0 * x0 + x1 * x1 + x2 * x2 ∧ ∀ B, Rg x0 B → Rg x1 B → Rg x2 B → M ≤ B := by
  have key : ∀ z, ab z * ab z = z * z := fun z => by unfold ab; split <;> grind
  have s0 := sq_nn x0
  have s1 := sq_nn x1
  have s2 := sq_nn x2
  have k0 := key x0
  have k1 := key x1
  have k2 := key x2
  rcases (Rat.le_total : ab x0 ≤ ab x1 ∨ ab x1 ≤ ab x0) with h | h
  · rcases (Rat.le_total : ab x1 ≤ ab x2 ∨ ab x2 ≤ ab x1) with g | g
    · exact ⟨ab x2, (rg_ab x0).mono (by grind), (rg_ab x1).mono g, rg_ab x2, by grind, fun B _ _ hB => ab_le hB⟩
    · exact ⟨ab x1, (rg_ab x0).mono h, rg_ab x1, (rg_ab x2).mono g, by grind, fun B _ hB _ => ab_le hB⟩
  · rcases (Rat.le_total : ab x0 ≤ ab x2 ∨ ab x2 ≤ ab x0) with g | g
    · exact ⟨ab x2, (rg_ab x0).mono g, (rg_ab x1).mono (by grind), rg_ab x2, by grind, fun B _ _ hB => ab_le hB⟩
    · exact ⟨ab x0, rg_ab x0, (rg_ab x1).mono h, (rg_ab x2).mono g, by grind, fun B hB _ _ => ab_le hB⟩
theorem tri_l (T : Tri A00 A10 A11 A20 A21 A22 l00 l10 l11 l20 l21 l22) : (Rg l00 (901 / 100) ∧ Rg l11 (901 / 100) ∧ Rg l22 (901 / 100)) ∧ Rg l10 (901 / 100) ∧ Rg l20 (901 / 100) ∧ Rg l21 (901 / 100) := by
  obtain ⟨⟨a1, a2⟩, ⟨a3, a4⟩, ⟨a5, a6⟩, o1, o2, o3, _⟩ := T
  exact ⟨⟨⟨by grind, a2⟩, ⟨by grind, a4⟩, ⟨by grind, a6⟩⟩, o1.mono (by decide +kernel), o2.mono (by decide +kernel), o3.mono (by decide +kernel)⟩
theorem res1 (T : Tri A00 A10 A11 A20 A21 A22 l00 l10 l11 l20 l21 l22) (f0 : Rg (l00 * y0 - b0) p1) (f1 : Rg (l10 * y0 + l11 * y1 - b1) p1) (f2 : Rg (l20 * y0 + l21 * y1 + l22 * y2 - b2) p1)
    (g0 : Rg (l00 * x0 + l10 * x1 + l20 * x2 - y0) p2) (g1 : Rg (l11 * x1 + l21 * x2 - y1) p2) (g2 : Rg (l22 * x2 - y2) p2) (h0 : Rg x0 M) (h1 : Rg x1 M) (h2 : Rg x2 M) :
    Rg (A00 * x0 + A10 * x1 + A20 * x2 - b0) (3 * M / 8000 + p1 + 28 * p2) ∧ Rg (A10 * x0 + A11 * x1 + A21 * x2 - b1) (3 * M / 8000 + p1 + 28 * p2) ∧ Rg (A20 * x0 + A21 * x1 + A22 * x2 - b2) (3 * M / 8000 + p1 + 28 * p2) := by
  obtain ⟨⟨q0, q1, q2⟩, q3, q4, q5⟩ := tri_l T
  obtain ⟨_, _, _, _, _, _, e00, e10, e11, e20, e21, e22⟩ := T
  have n1 := g0.nn
  refine ⟨?_, ?_, ?_⟩
  · have e : A00 * x0 + A10 * x1 + A20 * x2 - b0 = (l00 * y0 - b0) + l00 * (l00 * x0 + l10 * x1 + l20 * x2 - y0) - ((l00 * l00 - A00) * x0 + (l10 * l00 - A10) * x1 + (l20 * l00 - A20) * x2) := by grind
    rw [e]
    exact ((f0.add (rmul q0 g0)).sub (((rmul e00 h0).add (rmul e10 h1)).add (rmul e20 h2))).mono (by grind)
  · have e : A10 * x0 + A11 * x1 + A21 * x2 - b1 = (l10 * y0 + l11 * y1 - b1) + (l10 * (l00 * x0 + l10 * x1 + l20 * x2 - y0) + l11 * (l11 * x1 + l21 * x2 - y1)) - ((l10 * l00 - A10) * x0 + (l10 * l10 + l11 * l11 - A11) * x1 + (l20 * l10 + l21 * l11 - A21) * x2) := by grind
    rw [e]
    exact ((f1.add ((rmul q3 g0).add (rmul q1 g1))).sub (((rmul e10 h0).add (rmul e11 h1)).add (rmul e21 h2))).mono (by grind)
  · have e : A20 * x0 + A21 * x1 + A22 * x2 - b2 = (l20 * y0 + l21 * y1 + l22 * y2 - b2) + ((l20 * (l00 * x0 + l10 * x1 + l20 * x2 - y0) + l21 * (l11 * x1 + l21 * x2 - y1)) + l22 * (l22 * x2 - y2)) - ((l20 * l00 - A20) * x0 + (l20 * l10 + l21 * l11 - A21) * x1 + (l20 * l20 + l21 * l21 + l22 * l22 - A22) * x2) := by grind
    rw [e]
    exact ((f2.add (((rmul q4 g0).add (rmul q5 g1)).add (rmul q2 g2))).sub (((rmul e20 h0).add (rmul e21 h1)).add (rmul e22 h2))).mono (by grind)
/-- A square's form. -/
def qd (A00 A10 A11 A20 A21 A22 r s t : Rat) : Rat := A00 * (r * r) + A11 * (s * s) + A22 * (t * t) + 2 * (A10 * (r * s)) + 2 * (A20 * (r * t)) + 2 * (A21 * (s * t))
/-- What currents cost, exactly. -/
def co (A00 A10 A11 A20 A21 A22 b0 b1 b2 c r s t : Rat) : Rat := qd A00 A10 A11 A20 A21 A22 r s t - 2 * (b0 * r + b1 * s + b2 * t) + c
theorem ytri (T : Tri A00 A10 A11 A20 A21 A22 l00 l10 l11 l20 l21 l22) (g0 : Rg (l00 * x0 + l10 * x1 + l20 * x2 - y0) p2) (g1 : Rg (l11 * x1 + l21 * x2 - y1) p2) (g2 : Rg (l22 * x2 - y2) p2) (h0 : Rg x0 M) (h1 : Rg x1 M) (h2 : Rg x2 M) :
    Rg y0 (28 * M + p2) ∧ Rg y1 (28 * M + p2) ∧ Rg y2 (28 * M + p2) := by
  obtain ⟨⟨q0, q1, q2⟩, q3, q4, q5⟩ := tri_l T
  have m0 := h0.nn
  refine ⟨?_, ?_, ?_⟩
  · have e : y0 = ((l00 * x0 + l10 * x1) + l20 * x2) - (l00 * x0 + l10 * x1 + l20 * x2 - y0) := by grind
    rw [e]; exact ((((rmul q0 h0).add (rmul q3 h1)).add (rmul q4 h2)).sub g0).mono (by grind)
  · have e : y1 = (l11 * x1 + l21 * x2) - (l11 * x1 + l21 * x2 - y1) := by grind
    rw [e]; exact (((rmul q1 h1).add (rmul q5 h2)).sub g1).mono (by grind)
  · have e : y2 = l22 * x2 - (l22 * x2 - y2) := by grind
    rw [e]; exact ((rmul q2 h2).sub g2).mono (by grind)
/-- The sizes of what a triangle makes, by the form. -/
theorem ysz (T : Tri A00 A10 A11 A20 A21 A22 l00 l10 l11 l20 l21 l22) (g0 : Rg (l00 * x0 + l10 * x1 + l20 * x2 - y0) p2) (g1 : Rg (l11 * x1 + l21 * x2 - y1) p2) (g2 : Rg (l22 * x2 - y2) p2) (h0 : Rg x0 18) (h1 : Rg x1 18) (h2 : Rg x2 18)
    (hq : qd A00 A10 A11 A20 A21 A22 x0 x1 x2 ≤ 323) : Rg y0 (18 + p2) ∧ Rg y1 (18 + p2) ∧ Rg y2 (18 + p2) := by
  obtain ⟨_, _, _, _, _, _, e00, e10, e11, e20, e21, e22⟩ := T
  have k : Rg ((l00 * l00 - A00) * (x0 * x0) + (l10 * l10 + l11 * l11 - A11) * (x1 * x1) + (l20 * l20 + l21 * l21 + l22 * l22 - A22) * (x2 * x2) + 2 * ((l10 * l00 - A10) * (x0 * x1)) + 2 * ((l20 * l00 - A20) * (x0 * x2)) + 2 * ((l20 * l10 + l21 * l11 - A21) * (x1 * x2))) 1 := by
    have two : Rg 2 2 := ⟨by decide +kernel, by decide +kernel⟩
    exact ((((((rmul e00 (rmul h0 h0)).add (rmul e11 (rmul h1 h1))).add (rmul e22 (rmul h2 h2))).add (rmul two (rmul e10 (rmul h0 h1)))).add (rmul two (rmul e20 (rmul h0 h2)))).add (rmul two (rmul e21 (rmul h1 h2)))).mono (by decide +kernel)
  have e : (l00 * x0 + l10 * x1 + l20 * x2) * (l00 * x0 + l10 * x1 + l20 * x2) + (l11 * x1 + l21 * x2) * (l11 * x1 + l21 * x2) + l22 * x2 * (l22 * x2) = qd A00 A10 A11 A20 A21 A22 x0 x1 x2 + ((l00 * l00 - A00) * (x0 * x0) + (l10 * l10 + l11 * l11 - A11) * (x1 * x1) + (l20 * l20 + l21 * l21 + l22 * l22 - A22) * (x2 * x2) + 2 * ((l10 * l00 - A10) * (x0 * x1)) + 2 * ((l20 * l00 - A20) * (x0 * x2)) + 2 * ((l20 * l10 + l21 * l11 - A21) * (x1 * x2))) := by
    unfold qd; grind
  have s0 := sq_nn (l00 * x0 + l10 * x1 + l20 * x2)
  have s1 := sq_nn (l11 * x1 + l21 * x2)
  have s2 := sq_nn (l22 * x2)
  obtain ⟨_, k2⟩ := k
  have hs : (l00 * x0 + l10 * x1 + l20 * x2) * (l00 * x0 + l10 * x1 + l20 * x2) + (l11 * x1 + l21 * x2) * (l11 * x1 + l21 * x2) + l22 * x2 * (l22 * x2) ≤ 18 * 18 := by rw [e]; grind
  have key : ∀ z : Rat, z * z ≤ 18 * 18 → Rg z 18 := fun z hz => by
    constructor
    · have := rsq_le (a := -z) (b := 18) (by decide +kernel) (by grind)
      grind
    · exact rsq_le (by decide +kernel) hz
  have r0 := key _ (show (l00 * x0 + l10 * x1 + l20 * x2) * (l00 * x0 + l10 * x1 + l20 * x2) ≤ 18 * 18 by grind)
  have r1 := key _ (show (l11 * x1 + l21 * x2) * (l11 * x1 + l21 * x2) ≤ 18 * 18 by grind)
  have r2 := key _ (show l22 * x2 * (l22 * x2) ≤ 18 * 18 by grind)
  refine ⟨?_, ?_, ?_⟩
  · have e : y0 = (l00 * x0 + l10 * x1 + l20 * x2) - (l00 * x0 + l10 * x1 + l20 * x2 - y0) := by grind
    rw [e]; exact r0.sub g0
  · have e : y1 = (l11 * x1 + l21 * x2) - (l11 * x1 + l21 * x2 - y1) := by grind
    rw [e]; exact r1.sub g1
  · have e : y2 = l22 * x2 - (l22 * x2 - y2) := by grind
    rw [e]; exact r2.sub g2
end
end Go.Proofs.Ytgeflnjjppgooaa

namespace Go.Proofs.Ytgeflnjjppgooaa
open Go.RowKit
set_option maxRecDepth 20000
attribute [local irreducible] D9 D7 UU WW W9
section
variable {A00 A10 A11 A20 A21 A22 l00 l10 l11 l20 l21 l22 b0 b1 b2 x0 x1 x2 y0 y1 y2 c : Rat}
theorem form_at : qd A00 A10 A11 A20 A21 A22 x0 x1 x2 = (b0 * x0 + b1 * x1 + b2 * x2) + ((A00 * x0 + A10 * x1 + A20 * x2 - b0) * x0 + (A10 * x0 + A11 * x1 + A21 * x2 - b1) * x1 + (A20 * x0 + A21 * x1 + A22 * x2 - b2) * x2) := by unfold qd; grind
theorem co_diff (r s t : Rat) : co A00 A10 A11 A20 A21 A22 b0 b1 b2 c r s t - co A00 A10 A11 A20 A21 A22 b0 b1 b2 c x0 x1 x2 = qd A00 A10 A11 A20 A21 A22 (r - x0) (s - x1) (t - x2) + 2 * ((A00 * x0 + A10 * x1 + A20 * x2 - b0) * (r - x0) + (A10 * x0 + A11 * x1 + A21 * x2 - b1) * (s - x1) + (A20 * x0 + A21 * x1 + A22 * x2 - b2) * (t - x2)) := by
  unfold co qd; grind
theorem half_sq {r d B : Rat} (hr : Rg r B) : -(2 * (B * B)) ≤ d * d / 2 + 2 * (r * d) := by
  have h1 := sq_nn (d + 2 * r)
  have h2 := (rmul hr hr).2
  grind
/-- What is asked of solved equations: how far the rows are from what they should be, by the sizes of what is solved. -/
structure Slv (A00 A10 A11 A20 A21 A22 l00 l10 l11 l20 l21 l22 b0 b1 b2 x0 x1 x2 y0 y1 y2 : Rat) : Prop where
  T : Tri A00 A10 A11 A20 A21 A22 l00 l10 l11 l20 l21 l22
  f0 : ∀ Y, Rg y0 Y → Rg y1 Y → Rg y2 Y → Rg (l00 * y0 - b0) ((680 + 175 * Y) * u24)
  f1 : ∀ Y, Rg y0 Y → Rg y1 Y → Rg y2 Y → Rg (l10 * y0 + l11 * y1 - b1) ((680 + 175 * Y) * u24)
  f2 : ∀ Y, Rg y0 Y → Rg y1 Y → Rg y2 Y → Rg (l20 * y0 + l21 * y1 + l22 * y2 - b2) ((680 + 175 * Y) * u24)
  g0 : ∀ Y M, Rg y0 Y → Rg y1 Y → Rg y2 Y → Rg x0 M → Rg x1 M → Rg x2 M → Rg (l00 * x0 + l10 * x1 + l20 * x2 - y0) ((40 + 401 / 100 * Y + 175 * M) * u24)
  g1 : ∀ Y M, Rg y0 Y → Rg y1 Y → Rg y2 Y → Rg x0 M → Rg x1 M → Rg x2 M → Rg (l11 * x1 + l21 * x2 - y1) ((40 + 401 / 100 * Y + 175 * M) * u24)
  g2 : ∀ Y M, Rg y0 Y → Rg y1 Y → Rg y2 Y → Rg x0 M → Rg x1 M → Rg x2 M → Rg (l22 * x2 - y2) ((40 + 401 / 100 * Y + 175 * M) * u24)
/-- The solved numbers: small, and as good as any others, nearly. -/
theorem slv_best (S : Slv A00 A10 A11 A20 A21 A22 l00 l10 l11 l20 l21 l22 b0 b1 b2 x0 x1 x2 y0 y1 y2) (Q : Sqr A00 A10 A11 A20 A21 A22) (hc : c ≤ 320) (hp : ∀ r s t : Rat, (r * r + s * s + t * t) / 2 ≤ co A00 A10 A11 A20 A21 A22 b0 b1 b2 c r s t) :
    (x0 * x0 + x1 * x1 + x2 * x2 ≤ 324) ∧ ∀ r s t, co A00 A10 A11 A20 A21 A22 b0 b1 b2 c x0 x1 x2 ≤ co A00 A10 A11 A20 A21 A22 b0 b1 b2 c r s t + 1 / 1000 := by
  obtain ⟨M, m0, m1, m2, mM, mB⟩ := max3 x0 x1 x2
  obtain ⟨Y, k0, k1, k2, _, kB⟩ := max3 y0 y1 y2
  have hM := m0.nn
  have hY := k0.nn
  have G0 := S.g0 Y M k0 k1 k2 m0 m1 m2
  have G1 := S.g1 Y M k0 k1 k2 m0 m1 m2
  have G2 := S.g2 Y M k0 k1 k2 m0 m1 m2
  have F0 := S.f0 Y k0 k1 k2
  have F1 := S.f1 Y k0 k1 k2
  have F2 := S.f2 Y k0 k1 k2
  obtain ⟨w0, w1, w2⟩ := ytri S.T G0 G1 G2 m0 m1 m2
  have hYM : Y ≤ 29 * M + 1 := by
    have := kB _ w0 w1 w2
    unfold u24 at this
    grind
  obtain ⟨r0, r1, r2⟩ := res1 S.T F0 F1 F2 G0 G1 G2 m0 m1 m2
  have hR : 3 * M / 8000 + (680 + 175 * Y) * u24 + 28 * ((40 + 401 / 100 * Y + 175 * M) * u24) ≤ 12 / 10000 * M + 2 / 10000 := by unfold u24; grind
  replace r0 := r0.mono hR
  replace r1 := r1.mono hR
  replace r2 := r2.mono hR
  have fa := form_at (A00 := A00) (A10 := A10) (A11 := A11) (A20 := A20) (A21 := A21) (A22 := A22) (b0 := b0) (b1 := b1) (b2 := b2) (x0 := x0) (x1 := x1) (x2 := x2)
  have ps : (x0 * x0 + x1 * x1 + x2 * x2) / 2 ≤ qd A00 A10 A11 A20 A21 A22 x0 x1 x2 := Q.psd x0 x1 x2
  have pp := hp x0 x1 x2
  have hco : co A00 A10 A11 A20 A21 A22 b0 b1 b2 c x0 x1 x2 = c - qd A00 A10 A11 A20 A21 A22 x0 x1 x2 + 2 * ((A00 * x0 + A10 * x1 + A20 * x2 - b0) * x0 + (A10 * x0 + A11 * x1 + A21 * x2 - b1) * x1 + (A20 * x0 + A21 * x1 + A22 * x2 - b2) * x2) := by
    unfold co; rw [fa]; grind
  rw [hco] at pp
  have hM18 : M ≤ 18 := by
    have t := (((rmul r0 m0).add (rmul r1 m1)).add (rmul r2 m2)).2
    rcases (Rat.le_total : M ≤ 18 ∨ 18 ≤ M) with h | h
    · exact h
    · have h2 := Rat.mul_le_mul_of_nonneg_right h hM
      have e : (12 / 10000 * M + 2 / 10000) * M = 12 / 10000 * (M * M) + 2 / 10000 * M := by grind
      rw [e] at t
      grind
  have n0 := m0.mono hM18
  have n1 := m1.mono hM18
  have n2 := m2.mono hM18
  have hR2 : 12 / 10000 * M + 2 / 10000 ≤ (22 / 1000 : Rat) := by grind
  have t2 := (((rmul (r0.mono hR2) n0).add (rmul (r1.mono hR2) n1)).add (rmul (r2.mono hR2) n2)).2
  have hS : x0 * x0 + x1 * x1 + x2 * x2 ≤ 324 := by grind
  have hq : qd A00 A10 A11 A20 A21 A22 x0 x1 x2 ≤ 323 := by
    have s0 := sq_nn x0
    have s1 := sq_nn x1
    have s2 := sq_nn x2
    grind
  refine ⟨hS, fun r s t => ?_⟩
  have G0' : Rg (l00 * x0 + l10 * x1 + l20 * x2 - y0) (1 / 1000) := G0.mono (by unfold u24; grind)
  have G1' : Rg (l11 * x1 + l21 * x2 - y1) (1 / 1000) := G1.mono (by unfold u24; grind)
  have G2' : Rg (l22 * x2 - y2) (1 / 1000) := G2.mono (by unfold u24; grind)
  obtain ⟨v0, v1, v2⟩ := ysz S.T G0' G1' G2' n0 n1 n2 hq
  have F0' := S.f0 _ v0 v1 v2
  have F1' := S.f1 _ v0 v1 v2
  have F2' := S.f2 _ v0 v1 v2
  have H0 := S.g0 _ _ v0 v1 v2 n0 n1 n2
  have H1 := S.g1 _ _ v0 v1 v2 n0 n1 n2
  have H2 := S.g2 _ _ v0 v1 v2 n0 n1 n2
  obtain ⟨R0, R1, R2⟩ := res1 S.T F0' F1' F2' H0 H1 H2 n0 n1 n2
  have hR3 : 3 * 18 / 8000 + (680 + 175 * (18 + 1 / 1000)) * u24 + 28 * ((40 + 401 / 100 * (18 + 1 / 1000) + 175 * 18) * u24) ≤ (1 / 79 : Rat) := by decide +kernel
  have d := co_diff (A00 := A00) (A10 := A10) (A11 := A11) (A20 := A20) (A21 := A21) (A22 := A22) (b0 := b0) (b1 := b1) (b2 := b2) (c := c) (x0 := x0) (x1 := x1) (x2 := x2) r s t
  have q2 : ((r - x0) * (r - x0) + (s - x1) * (s - x1) + (t - x2) * (t - x2)) / 2 ≤ qd A00 A10 A11 A20 A21 A22 (r - x0) (s - x1) (t - x2) := Q.psd _ _ _
  have c0 := half_sq (d := r - x0) (R0.mono hR3)
  have c1 := half_sq (d := s - x1) (R1.mono hR3)
  have c2 := half_sq (d := t - x2) (R2.mono hR3)
  clear R0 R1 R2 H0 H1 H2 F0' F1' F2' G0' G1' G2' F0 F1 F2 G0 G1 G2 fa hco pp ps hp t2 r0 r1 r2
  generalize co A00 A10 A11 A20 A21 A22 b0 b1 b2 c r s t = u1 at *
  generalize co A00 A10 A11 A20 A21 A22 b0 b1 b2 c x0 x1 x2 = u2 at *
  generalize qd A00 A10 A11 A20 A21 A22 (r - x0) (s - x1) (t - x2) = u3 at *
  generalize A00 * x0 + A10 * x1 + A20 * x2 - b0 = e0 at *
  generalize A10 * x0 + A11 * x1 + A21 * x2 - b1 = e1 at *
  generalize A20 * x0 + A21 * x1 + A22 * x2 - b2 = e2 at *
  grind
end
end Go.Proofs.Ytgeflnjjppgooaa

namespace Go.Proofs.Ytgeflnjjppgooaa
open Go.RowKit
set_option maxRecDepth 20000
attribute [local irreducible] D9 D7 UU WW W9
section
variable {A00 A10 A11 A20 A21 A22 l00 l10 l11 l20 l21 l22 b0 b1 b2 : Rat} {k00 k10 k11 k20 k21 k22 c0 c1 c2 : Nat}
def Y0 (k00 c0 : Nat) : Nat := fop .quo .f32 c0 k00
def Y1 (k00 k10 k11 c0 c1 : Nat) : Nat := fop .quo .f32 (fop .sub .f32 c1 (fop .mul .f32 k10 (Y0 k00 c0))) k11
def Y2 (k00 k10 k11 k20 k21 k22 c0 c1 c2 : Nat) : Nat := fop .quo .f32 (fop .sub .f32 (fop .sub .f32 c2 (fop .mul .f32 k20 (Y0 k00 c0))) (fop .mul .f32 k21 (Y1 k00 k10 k11 c0 c1))) k22
/-- Back: the last number, the one ahead of it, the one ahead of both. -/
def X1 (k10 k00 y0 x1 : Nat) : Nat := fop .quo .f32 (fop .sub .f32 y0 (fop .mul .f32 k10 x1)) k00
def X2 (k10 k20 k00 y0 x1 x2 : Nat) : Nat := fop .quo .f32 (fop .sub .f32 (fop .sub .f32 y0 (fop .mul .f32 k10 x1)) (fop .mul .f32 k20 x2)) k00
theorem zz_rg {Z : Rat} (h : 0 ≤ Z) : Rg 0 Z := ⟨by grind, h⟩
theorem slv1 (T : Tri A00 0 (1 / 2) 0 0 (1 / 2) l00 0 (7071 / 10000) 0 0 (7071 / 10000)) (h00 : qv k00 l00) (hb0 : qv c0 b0) (r0 : Rg b0 160) :
    ∃ y0 x0, qv (Y0 k00 c0) y0 ∧ qv (fop .quo .f32 (Y0 k00 c0) k00) x0 ∧ Slv A00 0 (1 / 2) 0 0 (1 / 2) l00 0 (7071 / 10000) 0 0 (7071 / 10000) b0 0 0 x0 0 0 y0 0 0 := by
  obtain ⟨⟨q0, q1, q2⟩, q3, q4, q5⟩ := tri_l T
  obtain ⟨y0, y01, y02, y03⟩ := row_q hb0 h00 T.d0 r0 (by decide +kernel)
  obtain ⟨x0, x01, x02, x03⟩ := row_q y01 h00 T.d0 y02 (by decide +kernel)
  refine ⟨y0, x0, y01, x01, ⟨T, ?_, ?_, ?_, ?_, ?_, ?_⟩⟩
  · intro Y hY _ _
    have n := hY.nn
    have e : l00 * y0 - b0 = y0 * l00 - b0 := by grind
    rw [e]; exact (y03 Y hY).mono (by unfold u24; grind)
  · intro Y hY _ _
    have n := hY.nn
    have e : (0 : Rat) * y0 + 7071 / 10000 * 0 - 0 = 0 := by grind
    rw [e]; exact zz_rg (by unfold u24; grind)
  · intro Y hY _ _
    have n := hY.nn
    have e : (0 : Rat) * y0 + 0 * 0 + 7071 / 10000 * 0 - 0 = 0 := by grind
    rw [e]; exact zz_rg (by unfold u24; grind)
  · intro Y M hY _ _ hM _ _
    have n := hY.nn
    have m := hM.nn
    have e : l00 * x0 + 0 * 0 + 0 * 0 - y0 = x0 * l00 - y0 := by grind
    rw [e]; exact (x03 M hM).mono (by unfold u24; grind)
  · intro Y M hY _ _ hM _ _
    have n := hY.nn
    have m := hM.nn
    have e : (7071 / 10000 : Rat) * 0 + 0 * 0 - 0 = 0 := by grind
    rw [e]; exact zz_rg (by unfold u24; grind)
  · intro Y M hY _ _ hM _ _
    have n := hY.nn
    have m := hM.nn
    have e : (7071 / 10000 : Rat) * 0 - 0 = 0 := by grind
    rw [e]; exact zz_rg (by unfold u24; grind)
theorem slv2 (T : Tri A00 A10 A11 0 0 (1 / 2) l00 l10 l11 0 0 (7071 / 10000)) (h00 : qv k00 l00) (h10 : qv k10 l10) (h11 : qv k11 l11) (hb0 : qv c0 b0) (hb1 : qv c1 b1) (r0 : Rg b0 160) (r1 : Rg b1 160) :
    ∃ y0 y1 x0 x1, qv (fop .quo .f32 (Y1 k00 k10 k11 c0 c1) k11) x1 ∧ qv (X1 k10 k00 (Y0 k00 c0) (fop .quo .f32 (Y1 k00 k10 k11 c0 c1) k11)) x0 ∧ Slv A00 A10 A11 0 0 (1 / 2) l00 l10 l11 0 0 (7071 / 10000) b0 b1 0 x0 x1 0 y0 y1 0 := by
  obtain ⟨⟨q0, q1, q2⟩, q3, q4, q5⟩ := tri_l T
  obtain ⟨y0, y01, y02, y03⟩ := row_q hb0 h00 T.d0 r0 (by decide +kernel)
  obtain ⟨d1, d11, d12, d13⟩ := row_s hb1 h10 y01 q3 r1 y02 (by decide +kernel) (by decide +kernel)
  obtain ⟨y1, y11, y12, y13⟩ := row_q d11 h11 T.d1 d12 (by decide +kernel)
  obtain ⟨x1, x11, x12, x13⟩ := row_q y11 h11 T.d1 y12 (by decide +kernel)
  obtain ⟨e1, e11, e12, e13⟩ := row_s y01 h10 x11 q3 y02 x12 (by decide +kernel) (by decide +kernel)
  obtain ⟨x0, x01, x02, x03⟩ := row_q e11 h00 T.d0 e12 (by decide +kernel)
  refine ⟨y0, y1, x0, x1, x11, x01, ⟨T, ?_, ?_, ?_, ?_, ?_, ?_⟩⟩
  · intro Y hY _ _
    have n := hY.nn
    have e : l00 * y0 - b0 = y0 * l00 - b0 := by grind
    rw [e]; exact (y03 Y hY).mono (by unfold u24; grind)
  · intro Y hY hY1 _
    have n := hY.nn
    have e : l10 * y0 + l11 * y1 - b1 = (y1 * l11 - d1) + (d1 - (b1 - l10 * y0)) := by grind
    rw [e]; exact ((y13 Y hY1).add (d13 Y _ hY r1)).mono (by unfold u24; grind)
  · intro Y hY _ _
    have n := hY.nn
    have e : (0 : Rat) * y0 + 0 * y1 + 7071 / 10000 * 0 - 0 = 0 := by grind
    rw [e]; exact zz_rg (by unfold u24; grind)
  · intro Y M hY _ _ hM hM1 _
    have n := hY.nn
    have m := hM.nn
    have e : l00 * x0 + l10 * x1 + 0 * 0 - y0 = (x0 * l00 - e1) + (e1 - (y0 - l10 * x1)) := by grind
    rw [e]; exact ((x03 M hM).add (e13 M _ hM1 hY)).mono (by unfold u24; grind)
  · intro Y M hY _ _ hM hM1 _
    have n := hY.nn
    have m := hM.nn
    have e : l11 * x1 + 0 * 0 - y1 = x1 * l11 - y1 := by grind
    rw [e]; exact (x13 M hM1).mono (by unfold u24; grind)
  · intro Y M hY _ _ hM _ _
    have n := hY.nn
    have m := hM.nn
    have e : (7071 / 10000 : Rat) * 0 - 0 = 0 := by grind
    rw [e]; exact zz_rg (by unfold u24; grind)
theorem slv3 (T : Tri A00 A10 A11 A20 A21 A22 l00 l10 l11 l20 l21 l22) (h00 : qv k00 l00) (h10 : qv k10 l10) (h11 : qv k11 l11) (h20 : qv k20 l20) (h21 : qv k21 l21) (h22 : qv k22 l22) (hb0 : qv c0 b0) (hb1 : qv c1 b1) (hb2 : qv c2 b2) (r0 : Rg b0 160) (r1 : Rg b1 160) (r2 : Rg b2 160) {kx2 kx1 : Nat} (w2 : kx2 = fop .quo .f32 (Y2 k00 k10 k11 k20 k21 k22 c0 c1 c2) k22) (w1 : kx1 = X1 k21 k11 (Y1 k00 k10 k11 c0 c1) kx2) :
    ∃ y0 y1 y2 x0 x1 x2, qv kx2 x2 ∧ qv kx1 x1 ∧ qv (X2 k10 k20 k00 (Y0 k00 c0) kx1 kx2) x0 ∧ Slv A00 A10 A11 A20 A21 A22 l00 l10 l11 l20 l21 l22 b0 b1 b2 x0 x1 x2 y0 y1 y2 := by
  subst w2; subst w1
  obtain ⟨⟨q0, q1, q2⟩, q3, q4, q5⟩ := tri_l T
  obtain ⟨y0, y01, y02, y03⟩ := row_q hb0 h00 T.d0 r0 (by decide +kernel)
  obtain ⟨d1, d11, d12, d13⟩ := row_s hb1 h10 y01 q3 r1 y02 (by decide +kernel) (by decide +kernel)
  obtain ⟨y1, y11, y12, y13⟩ := row_q d11 h11 T.d1 d12 (by decide +kernel)
  obtain ⟨f1, f11, f12, f13⟩ := row_s hb2 h20 y01 q4 r2 y02 (by decide +kernel) (by decide +kernel)
  obtain ⟨f2, f21, f22, f23⟩ := row_s f11 h21 y11 q5 f12 y12 (by decide +kernel) (by decide +kernel)
  obtain ⟨y2, y21, y22, y23⟩ := row_q f21 h22 T.d2 f22 (by decide +kernel)
  obtain ⟨x2, x21, x22, x23⟩ := row_q y21 h22 T.d2 y22 (by decide +kernel)
  obtain ⟨g1, g11, g12, g13⟩ := row_s y11 h21 x21 q5 y12 x22 (by decide +kernel) (by decide +kernel)
  obtain ⟨x1, x11, x12, x13⟩ := row_q g11 h11 T.d1 g12 (by decide +kernel)
  obtain ⟨e1, e11, e12, e13⟩ := row_s y01 h10 x11 q3 y02 x12 (by decide +kernel) (by decide +kernel)
  obtain ⟨e2, e21, e22, e23⟩ := row_s e11 h20 x21 q4 e12 x22 (by decide +kernel) (by decide +kernel)
  obtain ⟨x0, x01, x02, x03⟩ := row_q e21 h00 T.d0 e22 (by decide +kernel)
  refine ⟨y0, y1, y2, x0, x1, x2, x21, x11, x01, ⟨T, ?_, ?_, ?_, ?_, ?_, ?_⟩⟩
  · intro Y hY _ _
    have n := hY.nn
    have e : l00 * y0 - b0 = y0 * l00 - b0 := by grind
    rw [e]; exact (y03 Y hY).mono (by unfold u24; grind)
  · intro Y hY hY1 _
    have n := hY.nn
    have e : l10 * y0 + l11 * y1 - b1 = (y1 * l11 - d1) + (d1 - (b1 - l10 * y0)) := by grind
    rw [e]; exact ((y13 Y hY1).add (d13 Y _ hY r1)).mono (by unfold u24; grind)
  · intro Y hY hY1 hY2
    have n := hY.nn
    have a1 := f13 Y _ hY r2
    have a2 : Rg f1 (160 + 901 / 100 * Y + (4 + 2 * 160 + 37 * Y) * u24) := by
      have e : f1 = (b2 - l20 * y0) + (f1 - (b2 - l20 * y0)) := by grind
      rw [e]; exact (r2.sub (rmul q4 hY)).add a1
    have a3 := f23 Y _ hY1 a2
    have e : l20 * y0 + l21 * y1 + l22 * y2 - b2 = (y2 * l22 - f2) + ((f2 - (f1 - l21 * y1)) + (f1 - (b2 - l20 * y0))) := by grind
    rw [e]; exact ((y23 Y hY2).add (a3.add a1)).mono (by unfold u24; grind)
  · intro Y M hY _ _ hM hM1 hM2
    have n := hY.nn
    have m := hM.nn
    have a1 := e13 M _ hM1 hY
    have a2 : Rg e1 (Y + 901 / 100 * M + (4 + 2 * Y + 37 * M) * u24) := by
      have e : e1 = (y0 - l10 * x1) + (e1 - (y0 - l10 * x1)) := by grind
      rw [e]; exact (hY.sub (rmul q3 hM1)).add a1
    have a3 := e23 M _ hM2 a2
    have e : l00 * x0 + l10 * x1 + l20 * x2 - y0 = (x0 * l00 - e2) + ((e2 - (e1 - l20 * x2)) + (e1 - (y0 - l10 * x1))) := by grind
    rw [e]; exact ((x03 M hM).add (a3.add a1)).mono (by unfold u24; grind)
  · intro Y M _ hY1 _ _ hM1 hM2
    have n := hY1.nn
    have m := hM1.nn
    have e : l11 * x1 + l21 * x2 - y1 = (x1 * l11 - g1) + (g1 - (y1 - l21 * x2)) := by grind
    rw [e]; exact ((x13 M hM1).add (g13 M _ hM2 hY1)).mono (by unfold u24; grind)
  · intro Y M hY _ _ _ _ hM2
    have n := hY.nn
    have m := hM2.nn
    have e : l22 * x2 - y2 = x2 * l22 - y2 := by grind
    rw [e]; exact (x23 M hM2).mono (by unfold u24; grind)
end
end Go.Proofs.Ytgeflnjjppgooaa

namespace Go.Proofs.Ytgeflnjjppgooaa
open Go.RowKit
def sv (x : Nat) : Int := sval FloatKind.f32.format x
/-- Halves. -/
def hvI (y : Nat) : Int := sv y / ((2 ^ 148 : Nat) : Int)
theorem half_is : ((2 ^ 148 : Nat) : Int) = 8388608 * UU := by
  have := (UU_big (k := 23) (K := 8388608) (by decide)).2
  rw [this]
theorem apx.sv {x : Nat} {X : Int} (h : apx x X) : sv x = X := h.2.2
theorem dy_half {x : Nat} {v : Int} (h : dy .f32 x (64 * v)) : hvI x = v ∧ apx x (v * (8388608 * UU)) := by
  have e : 64 * v * 2 ^ dyU .f32 = v * ((2 ^ 148 : Nat) : Int) := by
    have : ((2 ^ 148 : Nat) : Int) = 64 * 2 ^ dyU .f32 := by decide
    rw [this]; grind
  have h2 := apx_dy h
  rw [e] at h2
  refine ⟨?_, by rw [← half_is]; exact h2⟩
  unfold hvI
  rw [h2.sv]
  exact Int.mul_ediv_cancel _ (by decide)
section
variable {xs x ws gs : List Nat} {xss : List (List Nat)} {n i : Nat}
end
end Go.Proofs.Ytgeflnjjppgooaa

namespace Go.Proofs.Ytgeflnjjppgooaa
open Go.RowKit
set_option maxRecDepth 20000
attribute [local irreducible] D9 D7 UU WW W9
/-- What a word is worth. -/
def va (y : Nat) : Rat := ((sval FloatKind.f32.format y : Int) : Rat) / WW
theorem qv_va {y : Nat} {p : Rat} (h : qv y p) : va y = p := by
  obtain ⟨X, hX, e⟩ := h
  unfold va
  rw [hX.2.2, e]
  have := WW_pos
  grind
theorem va_0 : va 0 = 0 := qv_va one_0
theorem dy_va {y : Nat} {v : Int} (h : dy .f32 y v) : va y = (v : Rat) / 128 := qv_va (qv_dy h)
theorem dy_qv {y : Nat} {v : Int} (h : dy .f32 y v) : qv y (va y) := by rw [dy_va h]; exact qv_dy h
theorem h_dy {y : Nat} (h : H9 y) : dy .f32 y (64 * hvI y) ∧ (hvI y).natAbs ≤ 4 := by
  obtain ⟨v, v1, v2, _⟩ := hH h
  rw [(dy_half v2).1]; exact ⟨v2, v1⟩
theorem w_dy {y : Nat} (h : W17 y) : dy .f32 y (64 * hvI y) ∧ (hvI y).natAbs ≤ 8 := by
  obtain ⟨v, v1, v2, _⟩ := hW h
  rw [(dy_half v2).1]; exact ⟨v2, v1⟩
theorem g_dyh {y : Nat} (h : G4 y) : dy .f32 y (64 * hvI y) ∧ 1 ≤ hvI y ∧ hvI y ≤ 4 := by
  obtain ⟨k, hk, rfl⟩ := h
  have := tG ⟨k, hk⟩
  simp only [Bool.and_eq_true] at this
  have v2 := dyb_is this.1
  rw [(dy_half v2).1]
  exact ⟨v2, by show 1 ≤ (k : Int) + 1; omega, by show (k : Int) + 1 ≤ 4; omega⟩
theorem va_half {y : Nat} {v : Int} (h : dy .f32 y (64 * v)) : va y = (v : Rat) / 2 := by rw [dy_va h]; push_cast; grind
/-- sums -/
def sm (f : Nat → Rat) : Nat → Rat
  | 0 => 0
  | k + 1 => sm f k + f k
theorem sm_rg {f : Nat → Rat} {C : Rat} : ∀ m : Nat, (∀ i, i < m → Rg (f i) C) → Rg (sm f m) (C * m)
  | 0, _ => by
    have e : C * ((0 : Nat) : Rat) = 0 := Rat.mul_zero _
    rw [e]; exact ⟨by show -0 ≤ (0 : Rat); decide +kernel, by show (0 : Rat) ≤ 0; decide +kernel⟩
  | m + 1, h => by
    have a := (sm_rg m fun i hi => h i (by omega)).add (h m (by omega))
    have e : C * ((m + 1 : Nat) : Rat) = C * (m : Rat) + C := by push_cast; grind
    rw [e]; exact a
theorem sm_nn {f : Nat → Rat} : ∀ m : Nat, (∀ i, i < m → 0 ≤ f i) → 0 ≤ sm f m
  | 0, _ => by show (0 : Rat) ≤ 0; decide +kernel
  | m + 1, h => by
    have a := sm_nn m fun i hi => h i (by omega)
    have b := h m (by omega)
    rw [sm]; grind
def siA (xss : List (List Nat)) (gs : List Nat) (j k : Nat) : Nat → Int
  | 0 => 0
  | i + 1 => siA xss gs j k i + hvI (gs.getD i 0) * hvI (rowK xss i j) * hvI (rowK xss i k)
def siB (xss : List (List Nat)) (ws gs : List Nat) (j : Nat) : Nat → Int
  | 0 => 0
  | i + 1 => siB xss ws gs j i + hvI (gs.getD i 0) * hvI (rowK xss i j) * hvI (ws.getD i 0)
section
variable {xss : List (List Nat)} {ws gs : List Nat} {n i j k : Nat}
theorem row_H (h : DDok xss ws gs n) (hi : i < xss.length) (hj : j < n) : H9 (rowK xss i j) := by
  obtain ⟨r1, r2⟩ := getD_H h.rows hi []
  exact getD_H r2 (by omega) 0
theorem row_0 (h : DDok xss ws gs n) (hi : i < xss.length) (hj : n ≤ j) : rowK xss i j = 0 := by
  obtain ⟨r1, r2⟩ := getD_H h.rows hi []
  unfold rowK
  rw [List.getD_eq_getElem?_getD, List.getElem?_eq_none (by omega)]; rfl
theorem w_at (h : DDok xss ws gs n) (hi : i < xss.length) : W17 (ws.getD i 0) := getD_H h.hw (by rw [h.wl]; exact hi) 0
theorem g_at (h : DDok xss ws gs n) (hi : i < xss.length) : G4 (gs.getD i 0) := getD_H h.hg (by rw [h.gl]; exact hi) 0
theorem siA_bd (h : DDok xss ws gs n) (hj : j < n) (hk : k < n) : ∀ i, i ≤ xss.length → (siA xss gs j k i).natAbs ≤ 64 * i
  | 0, _ => Nat.le_refl _
  | i + 1, hi => by
    have ih := siA_bd h hj hk i (by omega)
    have a1 := g_dyh (g_at h (show i < xss.length by omega))
    have a2 := (h_dy (row_H h (show i < xss.length by omega) hj)).2
    have a3 := (h_dy (row_H h (show i < xss.length by omega) hk)).2
    have b1 := natAbs_mul_le (a := hvI (gs.getD i 0)) (m := 4) (by omega) a2
    have b2 := natAbs_mul_le b1 a3
    rw [siA]; omega
theorem siB_bd (h : DDok xss ws gs n) (hj : j < n) : ∀ i, i ≤ xss.length → (siB xss ws gs j i).natAbs ≤ 128 * i
  | 0, _ => Nat.le_refl _
  | i + 1, hi => by
    have ih := siB_bd h hj i (by omega)
    have a1 := g_dyh (g_at h (show i < xss.length by omega))
    have a2 := (h_dy (row_H h (show i < xss.length by omega) hj)).2
    have a3 := (w_dy (w_at h (show i < xss.length by omega))).2
    have b1 := natAbs_mul_le (a := hvI (gs.getD i 0)) (m := 4) (by omega) a2
    have b2 := natAbs_mul_le b1 a3
    rw [siB]; omega
theorem prod_dy {g x y : Nat} {G X Y : Int} (hg : dy .f32 g (64 * G)) (hx : dy .f32 x (64 * X)) (hy : dy .f32 y (64 * Y)) (b1 : (G * X).natAbs ≤ 16) (b2 : (G * X * Y).natAbs ≤ 128) : dy .f32 (fop .mul .f32 (fop .mul .f32 g x) y) (16 * (G * X * Y)) :=
  dy_mul (dy_mul (c := 32 * (G * X)) hg hx (by grind) (by omega)) hy (by grind) (by omega)
theorem blkA_dy (h : DDok xss ws gs n) (hj : j < n) (hk : k < n) {fr : Nat} : ∀ i, fr + i ≤ xss.length → dy .f32 (blkA xss gs fr j k i) (16 * (siA xss gs j k (fr + i) - siA xss gs j k fr))
  | 0, _ => by rw [Nat.add_zero, Int.sub_self]; exact dy_z
  | i + 1, hi => by
    have ih := blkA_dy h hj hk (fr := fr) i (by omega)
    have c1 := siA_bd h hj hk (fr + i) (by omega)
    have c2 := siA_bd h hj hk fr (by omega)
    obtain ⟨a1, a4, a5⟩ := g_dyh (g_at h (show fr + i < xss.length by omega))
    obtain ⟨d2, a2⟩ := h_dy (row_H h (show fr + i < xss.length by omega) hj)
    obtain ⟨d3, a3⟩ := h_dy (row_H h (show fr + i < xss.length by omega) hk)
    have b1 := natAbs_mul_le (a := hvI (gs.getD (fr + i) 0)) (m := 4) (by omega) a2
    have b2 := natAbs_mul_le b1 a3
    have p := prod_dy a1 d2 d3 b1 (by omega)
    have hm := h.m2
    have s := dy_add ih p (by omega)
    have e : 16 * (siA xss gs j k (fr + (i + 1)) - siA xss gs j k fr) = 16 * (siA xss gs j k (fr + i) - siA xss gs j k fr) + 16 * (hvI (gs.getD (fr + i) 0) * hvI (rowK xss (fr + i) j) * hvI (rowK xss (fr + i) k)) := by
      rw [← Nat.add_assoc, siA]; omega
    rw [e]; exact s
theorem blkB_dy (h : DDok xss ws gs n) (hj : j < n) {fr : Nat} : ∀ i, fr + i ≤ xss.length → dy .f32 (blkB xss ws gs fr j i) (16 * (siB xss ws gs j (fr + i) - siB xss ws gs j fr))
  | 0, _ => by rw [Nat.add_zero, Int.sub_self]; exact dy_z
  | i + 1, hi => by
    have ih := blkB_dy h hj (fr := fr) i (by omega)
    have c1 := siB_bd h hj (fr + i) (by omega)
    have c2 := siB_bd h hj fr (by omega)
    obtain ⟨a1, a4, a5⟩ := g_dyh (g_at h (show fr + i < xss.length by omega))
    obtain ⟨d2, a2⟩ := h_dy (row_H h (show fr + i < xss.length by omega) hj)
    obtain ⟨d3, a3⟩ := w_dy (w_at h (show fr + i < xss.length by omega))
    have b1 := natAbs_mul_le (a := hvI (gs.getD (fr + i) 0)) (m := 4) (by omega) a2
    have b2 := natAbs_mul_le b1 a3
    have p := prod_dy a1 d2 d3 b1 (by omega)
    have hm := h.m2
    have s := dy_add ih p (by omega)
    have e : 16 * (siB xss ws gs j (fr + (i + 1)) - siB xss ws gs j fr) = 16 * (siB xss ws gs j (fr + i) - siB xss ws gs j fr) + 16 * (hvI (gs.getD (fr + i) 0) * hvI (rowK xss (fr + i) j) * hvI (ws.getD (fr + i) 0)) := by
      rw [← Nat.add_assoc, siB]; omega
    rw [e]; exact s
theorem addL_get (X Y : List Nat) {t : Nat} (ht : t < X.length) : ∀ i, (addL X Y i).getD t 0 = if t < i then fop .add .f32 (X.getD t 0) (Y.getD t 0) else X.getD t 0
  | 0 => by rw [if_neg (by omega)]; rfl
  | i + 1 => by
    by_cases hi : i < X.length
    · rw [addL, gset (by rw [addL_length]; exact hi)]
      split
      · rename_i e; subst e; rw [addL_get X Y hi t, if_neg (by omega), if_pos (by omega)]
      · rw [addL_get X Y ht i]
        split
        · rw [if_pos (by omega)]
        · rw [if_neg (by omega)]
    · rw [addL, List.set_eq_of_length_le (by rw [addL_length]; omega), addL_get X Y ht i, if_pos (by omega), if_pos (by omega)]
theorem divmod {j k n : Nat} (hk : k < n) : (j * n + k) / n = j ∧ (j * n + k) % n = k := by
  constructor
  · rw [Nat.add_comm, Nat.add_mul_div_right _ _ (by omega), Nat.div_eq_of_lt hk, Nat.zero_add]
  · rw [Nat.add_comm, Nat.add_mul_mod_self_right, Nat.mod_eq_of_lt hk]
theorem blockA_get {fr cnt : Nat} (hj : j < n) (hk : k < n) : (blockA xss gs fr cnt n).getD (j * n + k) 0 = blkA xss gs fr j k cnt := by
  unfold blockA
  rw [getD_range _ _ (idx_lt hj hk), (divmod hk).1, (divmod hk).2]
theorem rep0 (m t : Nat) : (List.replicate m 0).getD t 0 = 0 := by
  rw [List.getD_eq_getElem?_getD, List.getElem?_replicate]
  split <;> rfl
theorem nmA_dy (h : DDok xss ws gs n) (hj : j < n) (hk : k < n) : ∀ b, dy .f32 ((nmA xss gs n b).getD (j * n + k) 0) (16 * siA xss gs j k (min (b * 8) xss.length))
  | 0 => by rw [nmA, rep0, Nat.zero_mul, Nat.zero_min]; exact dy_z
  | b + 1 => by
    have ih := nmA_dy h hj hk b
    have hl := idx_lt hj hk
    have hm := h.m2
    rw [nmA, addL_get _ _ (by rw [nmA_length]; exact hl), if_pos hl, pcA, blockA_get hj hk]
    by_cases hb : b * 8 ≤ xss.length
    · have p := blkA_dy h hj hk (fr := b * 8) (min 8 (xss.length - b * 8)) (by omega)
      have e1 : min (b * 8) xss.length = b * 8 := by omega
      have e2 : b * 8 + min 8 (xss.length - b * 8) = min ((b + 1) * 8) xss.length := by omega
      rw [e1] at ih
      rw [e2] at p
      have c1 := siA_bd h hj hk (b * 8) hb
      have c2 := siA_bd h hj hk (min ((b + 1) * 8) xss.length) (by omega)
      have s := dy_add ih p (by omega)
      rwa [show 16 * siA xss gs j k (b * 8) + 16 * (siA xss gs j k (min ((b + 1) * 8) xss.length) - siA xss gs j k (b * 8)) = 16 * siA xss gs j k (min ((b + 1) * 8) xss.length) by omega] at s
    · have e0 : min 8 (xss.length - b * 8) = 0 := by omega
      have e1 : min (b * 8) xss.length = xss.length := by omega
      have e2 : min ((b + 1) * 8) xss.length = xss.length := by omega
      rw [e1] at ih
      rw [e0, e2]
      have c1 := siA_bd h hj hk xss.length (Nat.le_refl _)
      have s := dy_add ih (dy_z (k := .f32)) (by omega)
      rwa [Int.add_zero] at s
theorem nmB_dy (h : DDok xss ws gs n) (hj : j < n) : ∀ b, dy .f32 ((nmB xss ws gs n b).getD j 0) (16 * siB xss ws gs j (min (b * 8) xss.length))
  | 0 => by rw [nmB, rep0, Nat.zero_mul, Nat.zero_min]; exact dy_z
  | b + 1 => by
    have ih := nmB_dy h hj b
    have hm := h.m2
    have hg : (pcB xss ws gs n b).getD j 0 = blkB xss ws gs (b * 8) j (min 8 (xss.length - b * 8)) := by unfold pcB blockB; exact getD_range _ _ hj
    rw [nmB, addL_get _ _ (by rw [nmB_length]; exact hj), if_pos hj, hg]
    by_cases hb : b * 8 ≤ xss.length
    · have p := blkB_dy h hj (fr := b * 8) (min 8 (xss.length - b * 8)) (by omega)
      have e1 : min (b * 8) xss.length = b * 8 := by omega
      have e2 : b * 8 + min 8 (xss.length - b * 8) = min ((b + 1) * 8) xss.length := by omega
      rw [e1] at ih
      rw [e2] at p
      have c1 := siB_bd h hj (b * 8) hb
      have c2 := siB_bd h hj (min ((b + 1) * 8) xss.length) (by omega)
      have s := dy_add ih p (by omega)
      rwa [show 16 * siB xss ws gs j (b * 8) + 16 * (siB xss ws gs j (min ((b + 1) * 8) xss.length) - siB xss ws gs j (b * 8)) = 16 * siB xss ws gs j (min ((b + 1) * 8) xss.length) by omega] at s
    · have e0 : min 8 (xss.length - b * 8) = 0 := by omega
      have e1 : min (b * 8) xss.length = xss.length := by omega
      have e2 : min ((b + 1) * 8) xss.length = xss.length := by omega
      rw [e1] at ih
      rw [e0, e2]
      have c1 := siB_bd h hj xss.length (Nat.le_refl _)
      have s := dy_add ih (dy_z (k := .f32)) (by omega)
      rwa [Int.add_zero] at s
theorem dgA_get {X : List Nat} {x : Nat} (hX : X.length = n * n) (hj : j < n) (hk : k < n) : ∀ i, i ≤ n → (dgA X x n i).getD (j * n + k) 0 = if j = k ∧ j < i then fop .add .f32 (X.getD (j * n + k) 0) x else X.getD (j * n + k) 0
  | 0, _ => by rw [if_neg (by omega)]; rfl
  | i + 1, hi => by
    have hii : i * n + i < n * n := idx_lt (by omega) (by omega)
    rw [dgA, gset (by rw [dgA_length, hX]; exact hii)]
    split
    · rename_i e
      obtain ⟨e1, e2⟩ := idx_inj (show i < n by omega) hk e
      have ih := dgA_get (x := x) hX hj hk i (by omega)
      rw [if_neg (by omega)] at ih
      rw [← e, ih, if_pos (by omega)]
    · rename_i e
      rw [dgA_get hX hj hk i (by omega)]
      have hne : ¬ (j = i ∧ k = i) := by rintro ⟨rfl, rfl⟩; exact e rfl
      by_cases g : j = k ∧ j < i
      · rw [if_pos g, if_pos (by omega)]
      · rw [if_neg g, if_neg (by omega)]
theorem half_dy : dy .f32 1056964608 64 := dyb_is (by decide +kernel)
theorem blk_all (m : Nat) : min (blocksN m * 8) m = m := by unfold blocksN; omega
theorem normA_dy (h : DDok xss ws gs n) (hj : j < n) (hk : k < n) : dy .f32 ((normA xss gs 1056964608).getD (j * n + k) 0) (16 * siA xss gs j k xss.length + if j = k then 64 else 0) := by
  unfold normA
  rw [dd_len0 h, dgA_get (nmA_length _ _ _ _) hj hk n (Nat.le_refl _)]
  have a := nmA_dy h hj hk (blocksN xss.length)
  rw [blk_all] at a
  have c1 := siA_bd h hj hk xss.length (Nat.le_refl _)
  have hm := h.m2
  by_cases g : j = k
  · rw [if_pos ⟨g, hj⟩, if_pos g]
    exact dy_add a half_dy (by omega)
  · rw [if_neg (by omega), if_neg g, Int.add_zero]
    exact a
theorem normB_dy (h : DDok xss ws gs n) (hj : j < n) : dy .f32 ((normB xss ws gs).getD j 0) (16 * siB xss ws gs j xss.length) := by
  unfold normB
  rw [dd_len0 h]
  have a := nmB_dy h hj (blocksN xss.length)
  rwa [blk_all] at a
theorem siA_sym (j k : Nat) : ∀ i, siA xss gs j k i = siA xss gs k j i
  | 0 => rfl
  | i + 1 => by rw [siA, siA, siA_sym j k i]; grind
end
end Go.Proofs.Ytgeflnjjppgooaa

namespace Go.Proofs.Ytgeflnjjppgooaa
open Go.RowKit
set_option maxRecDepth 20000
attribute [local irreducible] D9 D7 UU WW W9
section
variable {xss : List (List Nat)} {ws gs : List Nat} {n i j k : Nat}
def gV (gs : List Nat) (i : Nat) : Rat := va (gs.getD i 0)
def tV (ws : List Nat) (i : Nat) : Rat := va (ws.getD i 0)
def xV (xss : List (List Nat)) (j i : Nat) : Rat := va (rowK xss i j)
def AR (xss : List (List Nat)) (gs : List Nat) (j k m : Nat) : Rat := sm (fun i => gV gs i * (xV xss j i * xV xss k i)) m
def bRo (xss : List (List Nat)) (ws gs : List Nat) (j m : Nat) : Rat := sm (fun i => gV gs i * (xV xss j i * tV ws i)) m
def CR (ws gs : List Nat) (m : Nat) : Rat := sm (fun i => gV gs i * (tV ws i * tV ws i)) m
/-- What a row misses, exactly. -/
def mu (xss : List (List Nat)) (ws : List Nat) (r s t : Rat) (i : Nat) : Rat := tV ws i - (xV xss 0 i * r + xV xss 1 i * s + xV xss 2 i * t)
def MR (xss : List (List Nat)) (ws gs : List Nat) (r s t : Rat) (m : Nat) : Rat := sm (fun i => gV gs i * (mu xss ws r s t i * mu xss ws r s t i)) m
theorem form_sm (r s t : Rat) : ∀ m, MR xss ws gs r s t m = qd (AR xss gs 0 0 m) (AR xss gs 1 0 m) (AR xss gs 1 1 m) (AR xss gs 2 0 m) (AR xss gs 2 1 m) (AR xss gs 2 2 m) r s t - 2 * (bRo xss ws gs 0 m * r + bRo xss ws gs 1 m * s + bRo xss ws gs 2 m * t) + CR ws gs m
  | 0 => by
    show (0 : Rat) = qd 0 0 0 0 0 0 r s t - 2 * (0 * r + 0 * s + 0 * t) + 0
    unfold qd; grind
  | m + 1 => by
    have ih := form_sm r s t m
    have e1 : MR xss ws gs r s t (m + 1) = MR xss ws gs r s t m + gV gs m * (mu xss ws r s t m * mu xss ws r s t m) := rfl
    have e2 : ∀ j k, AR xss gs j k (m + 1) = AR xss gs j k m + gV gs m * (xV xss j m * xV xss k m) := fun _ _ => rfl
    have e3 : ∀ j, bRo xss ws gs j (m + 1) = bRo xss ws gs j m + gV gs m * (xV xss j m * tV ws m) := fun _ => rfl
    have e4 : CR ws gs (m + 1) = CR ws gs m + gV gs m * (tV ws m * tV ws m) := rfl
    rw [e1, ih, e2, e2, e2, e2, e2, e2, e3, e3, e3, e4]
    unfold mu
    generalize AR xss gs 0 0 m = a1
    generalize AR xss gs 1 0 m = a2
    generalize AR xss gs 1 1 m = a3
    generalize AR xss gs 2 0 m = a4
    generalize AR xss gs 2 1 m = a5
    generalize AR xss gs 2 2 m = a6
    generalize bRo xss ws gs 0 m = c1
    generalize bRo xss ws gs 1 m = c2
    generalize bRo xss ws gs 2 m = c3
    generalize CR ws gs m = c4
    generalize gV gs m = g
    generalize xV xss 0 m = u1
    generalize xV xss 1 m = u2
    generalize xV xss 2 m = u3
    generalize tV ws m = v
    clear ih e1 e2 e3 e4
    unfold qd
    grind
theorem gV_bd (h : DDok xss ws gs n) (hi : i < xss.length) : 1 / 2 ≤ gV gs i ∧ gV gs i ≤ 2 := by
  obtain ⟨a1, a2, a3⟩ := g_dyh (g_at h hi)
  unfold gV
  rw [va_half a1]
  have b2 : ((1 : Int) : Rat) ≤ ((hvI (gs.getD i 0) : Int) : Rat) := Rat.intCast_le_intCast.2 a2
  have b3 : ((hvI (gs.getD i 0) : Int) : Rat) ≤ ((4 : Int) : Rat) := Rat.intCast_le_intCast.2 a3
  have e1 : ((1 : Int) : Rat) = 1 := rfl
  have e4 : ((4 : Int) : Rat) = 4 := rfl
  rw [e1] at b2
  rw [e4] at b3
  constructor <;> grind
theorem int_rg {v : Int} {m : Nat} (h : v.natAbs ≤ m) : Rg ((v : Rat) / 2) ((m : Rat) / 2) := by
  have b2 : (v : Rat) ≤ (((m : Nat) : Int) : Rat) := Rat.intCast_le_intCast.2 (by omega)
  have b3 : ((-((m : Nat) : Int) : Int) : Rat) ≤ (v : Rat) := Rat.intCast_le_intCast.2 (by omega)
  rw [Rat.intCast_neg] at b3
  have e : (((m : Nat) : Int) : Rat) = (m : Rat) := rfl
  rw [e] at b2 b3
  constructor <;> grind
theorem tV_bd (h : DDok xss ws gs n) (hi : i < xss.length) : Rg (tV ws i) 4 := by
  obtain ⟨a1, a2⟩ := w_dy (w_at h hi)
  unfold tV
  rw [va_half a1]
  exact (int_rg a2).mono (by decide +kernel)
theorem xV_bd (h : DDok xss ws gs n) (hi : i < xss.length) (j : Nat) : Rg (xV xss j i) 2 := by
  unfold xV
  by_cases hj : j < n
  · obtain ⟨a1, a2⟩ := h_dy (row_H h hi hj)
    rw [va_half a1]
    exact (int_rg a2).mono (by decide +kernel)
  · rw [row_0 h hi (by omega), va_0]
    exact ⟨by decide +kernel, by decide +kernel⟩
theorem gV_rg (h : DDok xss ws gs n) (hi : i < xss.length) : Rg (gV gs i) 2 := by obtain ⟨a, b⟩ := gV_bd h hi; exact ⟨by grind, b⟩
theorem m10 (h : DDok xss ws gs n) {C : Rat} (hC : 0 ≤ C) : C * (xss.length : Rat) ≤ C * 10 := by
  have b : ((xss.length : Nat) : Rat) ≤ ((10 : Nat) : Rat) := Rat.natCast_le_natCast.2 h.m2
  exact Rat.mul_le_mul_of_nonneg_left b hC
theorem AR_bd (h : DDok xss ws gs n) (j k : Nat) : Rg (AR xss gs j k xss.length) 80 :=
  (sm_rg xss.length fun i hi => (rmul (gV_rg h hi) (rmul (xV_bd h hi j) (xV_bd h hi k)))).mono (Rat.le_trans (m10 h (by decide +kernel)) (by decide +kernel))
theorem BR_bd (h : DDok xss ws gs n) (j : Nat) : Rg (bRo xss ws gs j xss.length) 160 :=
  (sm_rg xss.length fun i hi => (rmul (gV_rg h hi) (rmul (xV_bd h hi j) (tV_bd h hi)))).mono (Rat.le_trans (m10 h (by decide +kernel)) (by decide +kernel))
theorem CR_bd (h : DDok xss ws gs n) : CR ws gs xss.length ≤ 320 :=
  ((sm_rg xss.length fun i hi => (rmul (gV_rg h hi) (rmul (tV_bd h hi) (tV_bd h hi)))).mono (Rat.le_trans (m10 h (by decide +kernel)) (by decide +kernel)) : Rg _ 320).2
theorem sq_form (h : DDok xss ws gs n) (r s t : Rat) : 0 ≤ qd (AR xss gs 0 0 xss.length) (AR xss gs 1 0 xss.length) (AR xss gs 1 1 xss.length) (AR xss gs 2 0 xss.length) (AR xss gs 2 1 xss.length) (AR xss gs 2 2 xss.length) r s t := by
  have f := form_sm (xss := xss) (ws := []) (gs := gs) r s t xss.length
  have z : ∀ i, tV [] i = 0 := fun i => by unfold tV; rw [show ([] : List Nat).getD i 0 = 0 from rfl, va_0]
  have zB : ∀ j m, bRo xss [] gs j m = 0 := by
    intro j m
    induction m with
    | zero => rfl
    | succ m ih =>
      have e3 : bRo xss [] gs j (m + 1) = bRo xss [] gs j m + gV gs m * (xV xss j m * tV [] m) := rfl
      rw [e3, ih, z]; grind
  have zC : ∀ m, CR [] gs m = 0 := by
    intro m
    induction m with
    | zero => rfl
    | succ m ih =>
      have e3 : CR [] gs (m + 1) = CR [] gs m + gV gs m * (tV [] m * tV [] m) := rfl
      rw [e3, ih, z]; grind
  rw [zB, zB, zB, zC] at f
  have nn : 0 ≤ MR xss [] gs r s t xss.length := sm_nn _ fun i hi => Rat.mul_nonneg (by have := (gV_bd h hi).1; grind) (sq_nn _)
  grind
theorem MR_nn (h : DDok xss ws gs n) (r s t : Rat) : 0 ≤ MR xss ws gs r s t xss.length := sm_nn _ fun i hi => Rat.mul_nonneg (by have := (gV_bd h hi).1; grind) (sq_nn _)
theorem dd_sqr (h : DDok xss ws gs n) : Sqr (AR xss gs 0 0 xss.length + 1 / 2) (AR xss gs 1 0 xss.length) (AR xss gs 1 1 xss.length + 1 / 2) (AR xss gs 2 0 xss.length) (AR xss gs 2 1 xss.length) (AR xss gs 2 2 xss.length + 1 / 2) := by
  refine ⟨fun r s t => ?_, ?_, ?_, ?_, (AR_bd h _ _).mono (by decide +kernel), (AR_bd h _ _).mono (by decide +kernel), (AR_bd h _ _).mono (by decide +kernel)⟩
  · have := sq_form h r s t
    unfold qd at this
    grind
  · have := (AR_bd h 0 0).2; grind
  · have := (AR_bd h 1 1).2; grind
  · have := (AR_bd h 2 2).2; grind
/-- What currents cost, exactly. -/
def fRo (xss : List (List Nat)) (ws gs : List Nat) (r s t : Rat) : Rat := MR xss ws gs r s t xss.length + (r * r + s * s + t * t) / 2
theorem co_isf (r s t : Rat) : co (AR xss gs 0 0 xss.length + 1 / 2) (AR xss gs 1 0 xss.length) (AR xss gs 1 1 xss.length + 1 / 2) (AR xss gs 2 0 xss.length) (AR xss gs 2 1 xss.length) (AR xss gs 2 2 xss.length + 1 / 2) (bRo xss ws gs 0 xss.length) (bRo xss ws gs 1 xss.length) (bRo xss ws gs 2 xss.length) (CR ws gs xss.length) r s t = fRo xss ws gs r s t := by
  unfold fRo
  rw [form_sm]
  unfold co qd
  grind
theorem siA_va (h : DDok xss ws gs n) (hj : j < n) (hk : k < n) : ∀ m, m ≤ xss.length → ((siA xss gs j k m : Int) : Rat) / 8 = AR xss gs j k m
  | 0, _ => by show ((0 : Int) : Rat) / 8 = 0; decide +kernel
  | m + 1, hm => by
    have ih := siA_va h hj hk m (by omega)
    have e2 : AR xss gs j k (m + 1) = AR xss gs j k m + gV gs m * (xV xss j m * xV xss k m) := rfl
    have g1 : gV gs m = _ := va_half (g_dyh (g_at h (show m < xss.length by omega))).1
    have x1 : xV xss j m = _ := va_half (h_dy (row_H h (show m < xss.length by omega) hj)).1
    have x2 : xV xss k m = _ := va_half (h_dy (row_H h (show m < xss.length by omega) hk)).1
    rw [e2, ← ih, g1, x1, x2, siA]
    push_cast
    grind
theorem siB_va (h : DDok xss ws gs n) (hj : j < n) : ∀ m, m ≤ xss.length → ((siB xss ws gs j m : Int) : Rat) / 8 = bRo xss ws gs j m
  | 0, _ => by show ((0 : Int) : Rat) / 8 = 0; decide +kernel
  | m + 1, hm => by
    have ih := siB_va h hj m (by omega)
    have e2 : bRo xss ws gs j (m + 1) = bRo xss ws gs j m + gV gs m * (xV xss j m * tV ws m) := rfl
    have g1 : gV gs m = _ := va_half (g_dyh (g_at h (show m < xss.length by omega))).1
    have x1 : xV xss j m = _ := va_half (h_dy (row_H h (show m < xss.length by omega) hj)).1
    have x2 : tV ws m = _ := va_half (w_dy (w_at h (show m < xss.length by omega))).1
    rw [e2, ← ih, g1, x1, x2, siB]
    push_cast
    grind
theorem normA_qv (h : DDok xss ws gs n) (hj : j < n) (hk : k < n) : qv ((normA xss gs 1056964608).getD (j * n + k) 0) (AR xss gs j k xss.length + if j = k then 1 / 2 else 0) := by
  have a := qv_dy (normA_dy h hj hk)
  rw [← siA_va h hj hk xss.length (Nat.le_refl _)]
  have e : ((16 * siA xss gs j k xss.length + (if j = k then 64 else 0) : Int) : Rat) / 128 = ((siA xss gs j k xss.length : Int) : Rat) / 8 + if j = k then 1 / 2 else 0 := by
    split <;> (push_cast; grind)
  rwa [e] at a
theorem normB_qv (h : DDok xss ws gs n) (hj : j < n) : qv ((normB xss ws gs).getD j 0) (bRo xss ws gs j xss.length) := by
  have a := qv_dy (normB_dy h hj)
  rw [← siB_va h hj xss.length (Nat.le_refl _)]
  have e : ((16 * siB xss ws gs j xss.length : Int) : Rat) / 128 = ((siB xss ws gs j xss.length : Int) : Rat) / 8 := by push_cast; grind
  rwa [e] at a
/-- Columns beyond the last one are zero. -/
theorem AR_0 (h : DDok xss ws gs n) (hj : n ≤ j) (k : Nat) : ∀ m, m ≤ xss.length → AR xss gs j k m = 0
  | 0, _ => rfl
  | m + 1, hm => by
    have e2 : AR xss gs j k (m + 1) = AR xss gs j k m + gV gs m * (xV xss j m * xV xss k m) := rfl
    have z : xV xss j m = 0 := by unfold xV; rw [row_0 h (by omega) hj, va_0]
    rw [e2, AR_0 h hj k m (by omega), z]; grind
theorem BR_0 (h : DDok xss ws gs n) (hj : n ≤ j) : ∀ m, m ≤ xss.length → bRo xss ws gs j m = 0
  | 0, _ => rfl
  | m + 1, hm => by
    have e2 : bRo xss ws gs j (m + 1) = bRo xss ws gs j m + gV gs m * (xV xss j m * tV ws m) := rfl
    have z : xV xss j m = 0 := by unfold xV; rw [row_0 h (by omega) hj, va_0]
    rw [e2, BR_0 h hj m (by omega), z]; grind
end
end Go.Proofs.Ytgeflnjjppgooaa

namespace Go.Proofs.Ytgeflnjjppgooaa
open Go.RowKit
set_option maxRecDepth 20000
attribute [local irreducible] D9 D7 UU WW W9
section
variable {a b : List Nat}
theorem chol_1 : chol a 1 1 = [L0 (a.getD 0 0)] := rfl
theorem chol_2 : chol a 2 2 = [L0 (a.getD 0 0), 0, L1 (a.getD 0 0) (a.getD 2 0), L11 (a.getD 0 0) (a.getD 2 0) (a.getD 3 0)] := rfl
theorem chol_31 : chol a 3 1 = [L0 (a.getD 0 0), 0, 0, L1 (a.getD 0 0) (a.getD 3 0), 0, 0, L1 (a.getD 0 0) (a.getD 6 0), 0, 0] := rfl
theorem chol_32 : chol a 3 2 = [L0 (a.getD 0 0), 0, 0, L1 (a.getD 0 0) (a.getD 3 0), L11 (a.getD 0 0) (a.getD 3 0) (a.getD 4 0), 0, L1 (a.getD 0 0) (a.getD 6 0), L21 (a.getD 0 0) (a.getD 3 0) (a.getD 4 0) (a.getD 6 0) (a.getD 7 0), 0] := by rw [chol, chol_31]; rfl
theorem chol_3 : chol a 3 3 = [L0 (a.getD 0 0), 0, 0, L1 (a.getD 0 0) (a.getD 3 0), L11 (a.getD 0 0) (a.getD 3 0) (a.getD 4 0), 0, L1 (a.getD 0 0) (a.getD 6 0), L21 (a.getD 0 0) (a.getD 3 0) (a.getD 4 0) (a.getD 6 0) (a.getD 7 0), L22 (a.getD 0 0) (a.getD 3 0) (a.getD 4 0) (a.getD 6 0) (a.getD 7 0) (a.getD 8 0)] := by rw [chol, chol_32]; rfl
theorem cS_2 : cS a (chol a 3 2) 3 2 2 = S2 (a.getD 0 0) (a.getD 3 0) (a.getD 4 0) (a.getD 6 0) (a.getD 7 0) (a.getD 8 0) := by rw [chol_32]; rfl
theorem cS_1 : cS a (chol a 3 1) 3 1 1 = S1 (a.getD 0 0) (a.getD 3 0) (a.getD 4 0) := by rw [chol_31]; rfl
theorem cholOk_1 (h : fcmp .gtr .f32 (a.getD 0 0) 0 = true) : cholOk a 1 = true := chol_yes (by decide) fun j hj => by
  obtain rfl : j = 0 := by omega
  exact h
theorem cholOk_2 (h : fcmp .gtr .f32 (a.getD 0 0) 0 = true) (h1 : fcmp .gtr .f32 (S1 (a.getD 0 0) (a.getD 2 0) (a.getD 3 0)) 0 = true) : cholOk a 2 = true := chol_yes (by decide) fun j hj => by
  rcases (show j = 0 ∨ j = 1 by omega) with rfl | rfl
  · exact h
  · exact h1
theorem cholOk_3 (h : fcmp .gtr .f32 (a.getD 0 0) 0 = true) (h1 : fcmp .gtr .f32 (S1 (a.getD 0 0) (a.getD 3 0) (a.getD 4 0)) 0 = true) (h2 : fcmp .gtr .f32 (S2 (a.getD 0 0) (a.getD 3 0) (a.getD 4 0) (a.getD 6 0) (a.getD 7 0) (a.getD 8 0)) 0 = true) : cholOk a 3 = true := chol_yes (by decide) fun j hj => by
  rcases (show j = 0 ∨ j = 1 ∨ j = 2 by omega) with rfl | rfl | rfl
  · exact h
  · rw [cS_1]; exact h1
  · rw [cS_2]; exact h2
theorem solve_1 {l0 : Nat} : solve [l0] b 1 = [fop .quo .f32 (Y0 l0 (b.getD 0 0)) l0] := rfl
theorem solve_2 {l0 l1 l2 : Nat} : solve [l0, 0, l1, l2] b 2 = [X1 l1 l0 (Y0 l0 (b.getD 0 0)) (fop .quo .f32 (Y1 l0 l1 l2 (b.getD 0 0) (b.getD 1 0)) l2), fop .quo .f32 (Y1 l0 l1 l2 (b.getD 0 0) (b.getD 1 0)) l2] := rfl
theorem solve_3 {l0 l1 l2 l3 l4 l5 : Nat} : solve [l0, 0, 0, l1, l2, 0, l3, l4, l5] b 3 = [X2 l1 l3 l0 (Y0 l0 (b.getD 0 0)) (X1 l4 l2 (Y1 l0 l1 l2 (b.getD 0 0) (b.getD 1 0)) (fop .quo .f32 (Y2 l0 l1 l2 l3 l4 l5 (b.getD 0 0) (b.getD 1 0) (b.getD 2 0)) l5)) (fop .quo .f32 (Y2 l0 l1 l2 l3 l4 l5 (b.getD 0 0) (b.getD 1 0) (b.getD 2 0)) l5), X1 l4 l2 (Y1 l0 l1 l2 (b.getD 0 0) (b.getD 1 0)) (fop .quo .f32 (Y2 l0 l1 l2 l3 l4 l5 (b.getD 0 0) (b.getD 1 0) (b.getD 2 0)) l5), fop .quo .f32 (Y2 l0 l1 l2 l3 l4 l5 (b.getD 0 0) (b.getD 1 0) (b.getD 2 0)) l5] := rfl
theorem side1 : side 1 = 1 := by decide
theorem side4 : side 4 = 2 := by decide
theorem side9 : side 9 = 3 := by decide
theorem neql {x : Nat} {v : Rat} (h : qv x v) (hv : 69 / 100 ≤ v) : fcmp .eql .f32 x 0 = false := by
  have h1 := qv_gt h one_0 (by grind)
  cases e : fcmp .eql .f32 x 0 with
  | false => rfl
  | true =>
    exfalso
    have g1 : FloatKind.f32.format.order x 0 = some .gt := by
      have : (FloatKind.f32.format.order x 0 == some .gt) = true := h1
      exact eq_of_beq this
    have g2 : (FloatKind.f32.format.order x 0 == some .eq) = true := e
    rw [g1] at g2
    cases g2
end
/-- What is known of the triangle and of the currents that fit. -/
structure FitR (xss : List (List Nat)) (ws gs : List Nat) (n : Nat) (l x : List Nat) (xi : Nat → Rat) (lam : Nat → Nat → Rat) : Prop where
  hl : cholOk (normA xss gs 1056964608) n = true ∧ cholOf (normA xss gs 1056964608) n = l
  hx : solveOk l (normB xss ws gs) = true ∧ solveOf l (normB xss ws gs) = x
  ll : l.length = n * n
  xl : x.length = n
  xv : ∀ j, j < n → qv (x.getD j 0) (xi j)
  x0 : ∀ j, n ≤ j → xi j = 0
  xs : xi 0 * xi 0 + xi 1 * xi 1 + xi 2 * xi 2 ≤ 324
  best : ∀ r s t, fRo xss ws gs (xi 0) (xi 1) (xi 2) ≤ fRo xss ws gs r s t + 1 / 1000
  lv : ∀ j k, j < n → k < n → qv (l.getD (j * n + k) 0) (lam j k) ∧ Rg (lam j k) (901 / 100)
  lz : ∀ j k, j < n → k < n → j < k → l.getD (j * n + k) 0 = 0
  lo : ∀ j k, j < n → n ≤ k → lam j k = 0
  le : ∀ j k, j < n → k < n → Rg (lam j 0 * lam k 0 + lam j 1 * lam k 1 + lam j 2 * lam k 2 - (AR xss gs j k xss.length + if j = k then 1 / 2 else 0)) (1 / 8000)
def f3 (a b c : Rat) : Nat → Rat
  | 0 => a
  | 1 => b
  | 2 => c
  | _ => 0
def f9 (a b c d e f : Rat) : Nat → Nat → Rat
  | 0 => f3 a 0 0
  | 1 => f3 b c 0
  | 2 => f3 d e f
  | _ => f3 0 0 0
theorem f3_o {a b c : Rat} : ∀ j, 3 ≤ j → f3 a b c j = 0
  | 0, h => by omega
  | 1, h => by omega
  | 2, h => by omega
  | _ + 3, _ => rfl
section
variable {xss : List (List Nat)} {ws gs : List Nat}
theorem AR_sym (j k : Nat) : ∀ m, AR xss gs j k m = AR xss gs k j m
  | 0 => rfl
  | m + 1 => by
    have e2 : ∀ j k, AR xss gs j k (m + 1) = AR xss gs j k m + gV gs m * (xV xss j m * xV xss k m) := fun _ _ => rfl
    rw [e2, e2, AR_sym j k m, Rat.mul_comm (xV xss j m)]
theorem z901 : Rg 0 (901 / 100) := ⟨by decide +kernel, by decide +kernel⟩
theorem r901 {l : Rat} (h : 69 / 100 ≤ l ∧ l ≤ 901 / 100) : Rg l (901 / 100) := ⟨by grind, h.2⟩
theorem r900 {l : Rat} (h : Rg l 9) : Rg l (901 / 100) := h.mono (by decide +kernel)
theorem fit_1 (h : DDok xss ws gs 1) : ∃ l x xi lam, FitR xss ws gs 1 l x xi lam := by
  have Q := dd_sqr h
  have a0 := normA_qv h (j := 0) (k := 0) (by decide) (by decide)
  rw [if_pos rfl] at a0
  have z := fun j k hj => AR_0 h (j := j) hj k xss.length (Nat.le_refl _)
  have e1 := z 1 0 (by decide)
  have e2 := z 1 1 (by decide)
  have e3 := z 2 0 (by decide)
  have e4 := z 2 1 (by decide)
  have e5 := z 2 2 (by decide)
  have b0 := normB_qv h (j := 0) (by decide)
  have c := co_isf (xss := xss) (ws := ws) (gs := gs)
  have zb := fun j hj => BR_0 h (j := j) hj xss.length (Nat.le_refl _)
  rw [e1, e2, e3, e4, e5, Rat.zero_add] at Q
  rw [e1, e2, e3, e4, e5, Rat.zero_add, zb 1 (by decide), zb 2 (by decide)] at c
  obtain ⟨l00, k1, k2, k3⟩ := tri0 Q a0
  have T : Tri (AR xss gs 0 0 xss.length + 1 / 2) 0 (1 / 2) 0 0 (1 / 2) l00 0 (7071 / 10000) 0 0 (7071 / 10000) :=
    ⟨k2, ⟨by decide +kernel, by decide +kernel⟩, ⟨by decide +kernel, by decide +kernel⟩, ⟨by decide +kernel, by decide +kernel⟩, ⟨by decide +kernel, by decide +kernel⟩, ⟨by decide +kernel, by decide +kernel⟩, k3.mono (by decide +kernel), by rw [Rat.zero_mul]; exact ⟨by decide +kernel, by decide +kernel⟩, ⟨by decide +kernel, by decide +kernel⟩, by rw [Rat.zero_mul]; exact ⟨by decide +kernel, by decide +kernel⟩, ⟨by decide +kernel, by decide +kernel⟩, ⟨by decide +kernel, by decide +kernel⟩⟩
  obtain ⟨y0, x0, y1, x1, S⟩ := slv1 T k1 b0 (BR_bd h 0)
  obtain ⟨s1, s2⟩ := slv_best S Q (CR_bd h) (fun r s t => by rw [c]; have := MR_nn h r s t; unfold fRo; grind)
  simp only [c] at s2
  have hlen : (normA xss gs 1056964608).length = 1 := by rw [normA_length, dd_len0 h]
  have ho := cholOk_1 (pos_gt a0 (by have := sqr_p0 Q; grind))
  have hc := (cholOf_yes ho).trans chol_1
  have hs : solveOk [L0 ((normA xss gs 1056964608).getD (0 * 1 + 0) 0)] (normB xss ws gs) = true := by
    refine ok_yes (by rw [List.length_singleton, side1]; decide) (by rw [List.length_singleton, side1, normB_length, dd_len0 h]) fun j hj => ?_
    rw [List.length_singleton, side1] at hj
    obtain rfl : j = 0 := by omega
    exact neql k1 k2.1
  have hso : solveOf [L0 ((normA xss gs 1056964608).getD (0 * 1 + 0) 0)] (normB xss ws gs) = _ := (solveOf_yes hs).trans ((congrArg (solve _ _) side1).trans solve_1)
  refine ⟨_, _, f3 x0 0 0, f9 l00 0 0 0 0 0, ⟨⟨ho, hc⟩, ⟨hs, hso⟩, rfl, rfl, ?_, ?_, s1, s2, ?_, ?_, ?_, ?_⟩⟩
  · intro j hj
    obtain rfl : j = 0 := by omega
    exact x1
  · intro j hj
    rcases (show j = 1 ∨ j = 2 ∨ 3 ≤ j by omega) with rfl | rfl | h3
    · rfl
    · rfl
    · exact f3_o j h3
  · intro j k hj hk
    obtain rfl : j = 0 := by omega
    obtain rfl : k = 0 := by omega
    exact ⟨k1, r901 k2⟩
  · intro j k hj hk hjk; omega
  · intro j k hj hk
    obtain rfl : j = 0 := by omega
    rcases (show k = 1 ∨ k = 2 ∨ 3 ≤ k by omega) with rfl | rfl | h3
    · rfl
    · rfl
    · exact f3_o k h3
  · intro j k hj hk
    obtain rfl : j = 0 := by omega
    obtain rfl : k = 0 := by omega
    rw [if_pos rfl]
    have e : f9 l00 0 0 0 0 0 0 0 * f9 l00 0 0 0 0 0 0 0 + f9 l00 0 0 0 0 0 0 1 * f9 l00 0 0 0 0 0 0 1 + f9 l00 0 0 0 0 0 0 2 * f9 l00 0 0 0 0 0 0 2 = l00 * l00 := by show l00 * l00 + 0 * 0 + 0 * 0 = _; grind
    rw [e]; exact k3.mono (by decide +kernel)
theorem fit_2 (h : DDok xss ws gs 2) : ∃ l x xi lam, FitR xss ws gs 2 l x xi lam := by
  have Q := dd_sqr h
  have a0 := normA_qv h (j := 0) (k := 0) (by decide) (by decide)
  have a2 := normA_qv h (j := 1) (k := 0) (by decide) (by decide)
  have a3 := normA_qv h (j := 1) (k := 1) (by decide) (by decide)
  rw [if_pos rfl] at a0 a3
  rw [if_neg (by decide), Rat.add_zero] at a2
  have z := fun j k hj => AR_0 h (j := j) hj k xss.length (Nat.le_refl _)
  have e3 := z 2 0 (by decide)
  have e4 := z 2 1 (by decide)
  have e5 := z 2 2 (by decide)
  have b0 := normB_qv h (j := 0) (by decide)
  have b1 := normB_qv h (j := 1) (by decide)
  have c := co_isf (xss := xss) (ws := ws) (gs := gs)
  rw [e3, e4, e5, Rat.zero_add] at Q
  rw [e3, e4, e5, Rat.zero_add, BR_0 h (j := 2) (by decide) xss.length (Nat.le_refl _)] at c
  obtain ⟨l00, k1, k2, k3⟩ := tri0 Q a0
  obtain ⟨l10, l11, m1, m2, m3, m4, m5, m6, m7⟩ := tri1 Q a2 a3 k1 k2 k3
  have T : Tri (AR xss gs 0 0 xss.length + 1 / 2) (AR xss gs 1 0 xss.length) (AR xss gs 1 1 xss.length + 1 / 2) 0 0 (1 / 2) l00 l10 l11 0 0 (7071 / 10000) :=
    ⟨k2, m5, ⟨by decide +kernel, by decide +kernel⟩, m4, ⟨by decide +kernel, by decide +kernel⟩, ⟨by decide +kernel, by decide +kernel⟩, k3.mono (by decide +kernel), m6.mono (by decide +kernel), m7.mono (by decide +kernel), by rw [Rat.zero_mul]; exact ⟨by decide +kernel, by decide +kernel⟩, by rw [Rat.zero_mul, Rat.zero_mul]; exact ⟨by decide +kernel, by decide +kernel⟩, ⟨by decide +kernel, by decide +kernel⟩⟩
  obtain ⟨y0, y1, x0, x1, x11, x01, S⟩ := slv2 T k1 m1 m2 b0 b1 (BR_bd h 0) (BR_bd h 1)
  obtain ⟨s1, s2⟩ := slv_best S Q (CR_bd h) (fun r s t => by rw [c]; have := MR_nn h r s t; unfold fRo; grind)
  simp only [c] at s2
  have ho := cholOk_2 (pos_gt a0 (by have := sqr_p0 Q; grind)) m3
  have hc := (cholOf_yes ho).trans chol_2
  obtain ⟨l, hl⟩ : ∃ l, l = [L0 ((normA xss gs 1056964608).getD 0 0), 0, L1 ((normA xss gs 1056964608).getD 0 0) ((normA xss gs 1056964608).getD 2 0), L11 ((normA xss gs 1056964608).getD 0 0) ((normA xss gs 1056964608).getD 2 0) ((normA xss gs 1056964608).getD 3 0)] := ⟨_, rfl⟩
  have hll : l.length = 4 := by rw [hl]; rfl
  have hs : solveOk l (normB xss ws gs) = true := by
    refine ok_yes (by rw [hll, side4]; decide) (by rw [hll, side4, normB_length, dd_len0 h]) fun j hj => ?_
    rw [hll, side4] at hj
    rw [hll, side4, hl]
    rcases (show j = 0 ∨ j = 1 by omega) with rfl | rfl
    · exact neql k1 k2.1
    · exact neql m2 m5.1
  have hso := (solveOf_yes hs).trans ((congrArg (solve l _) (show side l.length = 2 by rw [hll, side4])).trans ((congrArg (fun l => solve l _ 2) hl).trans solve_2))
  refine ⟨_, _, f3 x0 x1 0, f9 l00 l10 l11 0 0 0, ⟨⟨ho, hc.trans hl.symm⟩, ⟨hs, hso⟩, hll, rfl, ?_, ?_, s1, s2, ?_, ?_, ?_, ?_⟩⟩
  · intro j hj
    rcases (show j = 0 ∨ j = 1 by omega) with rfl | rfl
    · exact x01
    · exact x11
  · intro j hj
    rcases (show j = 2 ∨ 3 ≤ j by omega) with rfl | h3
    · rfl
    · exact f3_o j h3
  · intro j k hj hk
    rw [hl]
    rcases (show j = 0 ∨ j = 1 by omega) with rfl | rfl <;> rcases (show k = 0 ∨ k = 1 by omega) with rfl | rfl
    · exact ⟨k1, r901 k2⟩
    · exact ⟨one_0, z901⟩
    · exact ⟨m1, r900 m4⟩
    · exact ⟨m2, r901 m5⟩
  · intro j k hj hk hjk
    rw [hl]
    obtain rfl : j = 0 := by omega
    obtain rfl : k = 1 := by omega
    rfl
  · intro j k hj hk
    rcases (show j = 0 ∨ j = 1 by omega) with rfl | rfl <;> rcases (show k = 2 ∨ 3 ≤ k by omega) with rfl | h3 <;> first | rfl | exact f3_o k h3
  · intro j k hj hk
    rcases (show j = 0 ∨ j = 1 by omega) with rfl | rfl <;> rcases (show k = 0 ∨ k = 1 by omega) with rfl | rfl
    · rw [if_pos rfl]
      have e : f9 l00 l10 l11 0 0 0 0 0 * f9 l00 l10 l11 0 0 0 0 0 + f9 l00 l10 l11 0 0 0 0 1 * f9 l00 l10 l11 0 0 0 0 1 + f9 l00 l10 l11 0 0 0 0 2 * f9 l00 l10 l11 0 0 0 0 2 = l00 * l00 := by show l00 * l00 + 0 * 0 + 0 * 0 = _; grind
      rw [e]; exact T.e00
    · rw [if_neg (by decide), Rat.add_zero, AR_sym]
      have e : f9 l00 l10 l11 0 0 0 0 0 * f9 l00 l10 l11 0 0 0 1 0 + f9 l00 l10 l11 0 0 0 0 1 * f9 l00 l10 l11 0 0 0 1 1 + f9 l00 l10 l11 0 0 0 0 2 * f9 l00 l10 l11 0 0 0 1 2 = l10 * l00 := by show l00 * l10 + 0 * l11 + 0 * 0 = _; grind
      rw [e]; exact T.e10
    · rw [if_neg (by decide), Rat.add_zero]
      have e : f9 l00 l10 l11 0 0 0 1 0 * f9 l00 l10 l11 0 0 0 0 0 + f9 l00 l10 l11 0 0 0 1 1 * f9 l00 l10 l11 0 0 0 0 1 + f9 l00 l10 l11 0 0 0 1 2 * f9 l00 l10 l11 0 0 0 0 2 = l10 * l00 := by show l10 * l00 + l11 * 0 + 0 * 0 = _; grind
      rw [e]; exact T.e10
    · rw [if_pos rfl]
      have e : f9 l00 l10 l11 0 0 0 1 0 * f9 l00 l10 l11 0 0 0 1 0 + f9 l00 l10 l11 0 0 0 1 1 * f9 l00 l10 l11 0 0 0 1 1 + f9 l00 l10 l11 0 0 0 1 2 * f9 l00 l10 l11 0 0 0 1 2 = l10 * l10 + l11 * l11 := by show l10 * l10 + l11 * l11 + 0 * 0 = _; grind
      rw [e]; exact T.e11
theorem fit_3 (h : DDok xss ws gs 3) : ∃ l x xi lam, FitR xss ws gs 3 l x xi lam := by
  have Q := dd_sqr h
  have a0 := normA_qv h (j := 0) (k := 0) (by decide) (by decide)
  have a3 := normA_qv h (j := 1) (k := 0) (by decide) (by decide)
  have a4 := normA_qv h (j := 1) (k := 1) (by decide) (by decide)
  have a6 := normA_qv h (j := 2) (k := 0) (by decide) (by decide)
  have a7 := normA_qv h (j := 2) (k := 1) (by decide) (by decide)
  have a8 := normA_qv h (j := 2) (k := 2) (by decide) (by decide)
  rw [if_pos rfl] at a0 a4 a8
  rw [if_neg (by decide), Rat.add_zero] at a3 a6 a7
  have b0 := normB_qv h (j := 0) (by decide)
  have b1 := normB_qv h (j := 1) (by decide)
  have b2 := normB_qv h (j := 2) (by decide)
  have c := co_isf (xss := xss) (ws := ws) (gs := gs)
  obtain ⟨l00, k1, k2, k3⟩ := tri0 Q a0
  obtain ⟨l10, l11, m1, m2, m3, m4, m5, m6, m7⟩ := tri1 Q a3 a4 k1 k2 k3
  obtain ⟨l20, l21, l22, p1, p2, p3, p4, T⟩ := tri2 Q a6 a7 a8 k1 k2 k3 m1 m2 m4 m5 m6 m7
  obtain ⟨y0, y1, y2, x0, x1, x2, x21, x11, x01, S⟩ := slv3 T k1 m1 m2 p1 p2 p3 b0 b1 b2 (BR_bd h 0) (BR_bd h 1) (BR_bd h 2) rfl rfl
  obtain ⟨s1, s2⟩ := slv_best S Q (CR_bd h) (fun r s t => by rw [c]; have := MR_nn h r s t; unfold fRo; grind)
  simp only [c] at s2
  have ho := cholOk_3 (pos_gt a0 (by have := sqr_p0 Q; grind)) m3 p4
  have hc := (cholOf_yes ho).trans chol_3
  obtain ⟨l, hl⟩ : ∃ l, l = [L0 ((normA xss gs 1056964608).getD 0 0), 0, 0, L1 ((normA xss gs 1056964608).getD 0 0) ((normA xss gs 1056964608).getD 3 0), L11 ((normA xss gs 1056964608).getD 0 0) ((normA xss gs 1056964608).getD 3 0) ((normA xss gs 1056964608).getD 4 0), 0, L1 ((normA xss gs 1056964608).getD 0 0) ((normA xss gs 1056964608).getD 6 0), L21 ((normA xss gs 1056964608).getD 0 0) ((normA xss gs 1056964608).getD 3 0) ((normA xss gs 1056964608).getD 4 0) ((normA xss gs 1056964608).getD 6 0) ((normA xss gs 1056964608).getD 7 0), L22 ((normA xss gs 1056964608).getD 0 0) ((normA xss gs 1056964608).getD 3 0) ((normA xss gs 1056964608).getD 4 0) ((normA xss gs 1056964608).getD 6 0) ((normA xss gs 1056964608).getD 7 0) ((normA xss gs 1056964608).getD 8 0)] := ⟨_, rfl⟩
  have hll : l.length = 9 := by rw [hl]; rfl
  have hs : solveOk l (normB xss ws gs) = true := by
    refine ok_yes (by rw [hll, side9]; decide) (by rw [hll, side9, normB_length, dd_len0 h]) fun j hj => ?_
    rw [hll, side9] at hj
    rw [hll, side9, hl]
    rcases (show j = 0 ∨ j = 1 ∨ j = 2 by omega) with rfl | rfl | rfl
    · exact neql k1 k2.1
    · exact neql m2 m5.1
    · exact neql p3 T.d2.1
  have hso := (solveOf_yes hs).trans ((congrArg (solve l _) (show side l.length = 3 by rw [hll, side9])).trans ((congrArg (fun l => solve l _ 3) hl).trans solve_3))
  refine ⟨_, _, f3 x0 x1 x2, f9 l00 l10 l11 l20 l21 l22, ⟨⟨ho, hc.trans hl.symm⟩, ⟨hs, hso⟩, hll, rfl, ?_, ?_, s1, s2, ?_, ?_, ?_, ?_⟩⟩
  · intro j hj
    rcases (show j = 0 ∨ j = 1 ∨ j = 2 by omega) with rfl | rfl | rfl
    · exact x01
    · exact x11
    · exact x21
  · intro j hj
    exact f3_o j hj
  · intro j k hj hk
    rw [hl]
    rcases (show j = 0 ∨ j = 1 ∨ j = 2 by omega) with rfl | rfl | rfl <;> rcases (show k = 0 ∨ k = 1 ∨ k = 2 by omega) with rfl | rfl | rfl
    · exact ⟨k1, r901 k2⟩
    · exact ⟨one_0, z901⟩
    · exact ⟨one_0, z901⟩
    · exact ⟨m1, r900 m4⟩
    · exact ⟨m2, r901 m5⟩
    · exact ⟨one_0, z901⟩
    · exact ⟨p1, r900 T.o20⟩
    · exact ⟨p2, r900 T.o21⟩
    · exact ⟨p3, r901 T.d2⟩
  · intro j k hj hk hjk
    rw [hl]
    rcases (show j = 0 ∧ k = 1 ∨ j = 0 ∧ k = 2 ∨ j = 1 ∧ k = 2 by omega) with ⟨rfl, rfl⟩ | ⟨rfl, rfl⟩ | ⟨rfl, rfl⟩ <;> rfl
  · intro j k hj hk
    rcases (show j = 0 ∨ j = 1 ∨ j = 2 by omega) with rfl | rfl | rfl <;> exact f3_o k hk
  · intro j k hj hk
    rcases (show j = 0 ∨ j = 1 ∨ j = 2 by omega) with rfl | rfl | rfl <;> rcases (show k = 0 ∨ k = 1 ∨ k = 2 by omega) with rfl | rfl | rfl
    · rw [if_pos rfl, show f9 l00 l10 l11 l20 l21 l22 0 0 * f9 l00 l10 l11 l20 l21 l22 0 0 + f9 l00 l10 l11 l20 l21 l22 0 1 * f9 l00 l10 l11 l20 l21 l22 0 1 + f9 l00 l10 l11 l20 l21 l22 0 2 * f9 l00 l10 l11 l20 l21 l22 0 2 = l00 * l00 by show l00 * l00 + 0 * 0 + 0 * 0 = _; grind]
      exact T.e00
    · rw [if_neg (by decide), Rat.add_zero, AR_sym, show f9 l00 l10 l11 l20 l21 l22 0 0 * f9 l00 l10 l11 l20 l21 l22 1 0 + f9 l00 l10 l11 l20 l21 l22 0 1 * f9 l00 l10 l11 l20 l21 l22 1 1 + f9 l00 l10 l11 l20 l21 l22 0 2 * f9 l00 l10 l11 l20 l21 l22 1 2 = l10 * l00 by show l00 * l10 + 0 * l11 + 0 * 0 = _; grind]
      exact T.e10
    · rw [if_neg (by decide), Rat.add_zero, AR_sym, show f9 l00 l10 l11 l20 l21 l22 0 0 * f9 l00 l10 l11 l20 l21 l22 2 0 + f9 l00 l10 l11 l20 l21 l22 0 1 * f9 l00 l10 l11 l20 l21 l22 2 1 + f9 l00 l10 l11 l20 l21 l22 0 2 * f9 l00 l10 l11 l20 l21 l22 2 2 = l20 * l00 by show l00 * l20 + 0 * l21 + 0 * l22 = _; grind]
      exact T.e20
    · rw [if_neg (by decide), Rat.add_zero, show f9 l00 l10 l11 l20 l21 l22 1 0 * f9 l00 l10 l11 l20 l21 l22 0 0 + f9 l00 l10 l11 l20 l21 l22 1 1 * f9 l00 l10 l11 l20 l21 l22 0 1 + f9 l00 l10 l11 l20 l21 l22 1 2 * f9 l00 l10 l11 l20 l21 l22 0 2 = l10 * l00 by show l10 * l00 + l11 * 0 + 0 * 0 = _; grind]
      exact T.e10
    · rw [if_pos rfl, show f9 l00 l10 l11 l20 l21 l22 1 0 * f9 l00 l10 l11 l20 l21 l22 1 0 + f9 l00 l10 l11 l20 l21 l22 1 1 * f9 l00 l10 l11 l20 l21 l22 1 1 + f9 l00 l10 l11 l20 l21 l22 1 2 * f9 l00 l10 l11 l20 l21 l22 1 2 = l10 * l10 + l11 * l11 by show l10 * l10 + l11 * l11 + 0 * 0 = _; grind]
      exact T.e11
    · rw [if_neg (by decide), Rat.add_zero, AR_sym, show f9 l00 l10 l11 l20 l21 l22 1 0 * f9 l00 l10 l11 l20 l21 l22 2 0 + f9 l00 l10 l11 l20 l21 l22 1 1 * f9 l00 l10 l11 l20 l21 l22 2 1 + f9 l00 l10 l11 l20 l21 l22 1 2 * f9 l00 l10 l11 l20 l21 l22 2 2 = l20 * l10 + l21 * l11 by show l10 * l20 + l11 * l21 + 0 * l22 = _; grind]
      exact T.e21
    · rw [if_neg (by decide), Rat.add_zero, show f9 l00 l10 l11 l20 l21 l22 2 0 * f9 l00 l10 l11 l20 l21 l22 0 0 + f9 l00 l10 l11 l20 l21 l22 2 1 * f9 l00 l10 l11 l20 l21 l22 0 1 + f9 l00 l10 l11 l20 l21 l22 2 2 * f9 l00 l10 l11 l20 l21 l22 0 2 = l20 * l00 by show l20 * l00 + l21 * 0 + l22 * 0 = _; grind]
      exact T.e20
    · rw [if_neg (by decide), Rat.add_zero, show f9 l00 l10 l11 l20 l21 l22 2 0 * f9 l00 l10 l11 l20 l21 l22 1 0 + f9 l00 l10 l11 l20 l21 l22 2 1 * f9 l00 l10 l11 l20 l21 l22 1 1 + f9 l00 l10 l11 l20 l21 l22 2 2 * f9 l00 l10 l11 l20 l21 l22 1 2 = l20 * l10 + l21 * l11 by show l20 * l10 + l21 * l11 + l22 * 0 = _; grind]
      exact T.e21
    · rw [if_pos rfl, show f9 l00 l10 l11 l20 l21 l22 2 0 * f9 l00 l10 l11 l20 l21 l22 2 0 + f9 l00 l10 l11 l20 l21 l22 2 1 * f9 l00 l10 l11 l20 l21 l22 2 1 + f9 l00 l10 l11 l20 l21 l22 2 2 * f9 l00 l10 l11 l20 l21 l22 2 2 = l20 * l20 + l21 * l21 + l22 * l22 by show l20 * l20 + l21 * l21 + l22 * l22 = _; rfl]
      exact T.e22
/-- The triangle of a design of halves, and the currents that fit. -/
theorem fit_all {n : Nat} (h : DDok xss ws gs n) : ∃ l x xi lam, FitR xss ws gs n l x xi lam := by
  have h1 := h.n1
  have h2 := h.n2
  rcases (show n = 1 ∨ n = 2 ∨ n = 3 by omega) with rfl | rfl | rfl
  · exact fit_1 h
  · exact fit_2 h
  · exact fit_3 h
end
end Go.Proofs.Ytgeflnjjppgooaa

namespace Go.Proofs.Ytgeflnjjppgooaa
open Go.RowKit
set_option maxRecDepth 20000
theorem c01_q : qv 1008981770 (10737418 / 1073741824) := ⟨10737418 * 2 ^ 119, ⟨by decide +kernel, by decide +kernel, by decide +kernel⟩, by decide +kernel⟩
theorem hf_q : qv 1056964608 (1 / 2) := by
  have := qv_dy half_dy
  have e : ((64 : Int) : Rat) / 128 = 1 / 2 := by decide +kernel
  rwa [e] at this
attribute [local irreducible] D9 D7 UU WW W9
theorem sm_le {f : Nat → Rat} : ∀ m : Nat, (∀ i, i < m → 0 ≤ f i) → ∀ i, i < m → f i ≤ sm f m
  | 0, _, i, hi => by omega
  | m + 1, h, i, hi => by
    have a := sm_nn m fun i hi => h i (by omega)
    have b := h m (by omega)
    rw [sm]
    rcases (show i < m ∨ i = m by omega) with g | rfl
    · have := sm_le m (fun i hi => h i (by omega)) i g; grind
    · grind
theorem am {a q : Rat} (h : Rg a 2) : Rg (a * q) (52 / 5 + q * q * (5 / 52)) := by
  refine (rmul h (rg_ab q)).mono ?_
  have e : q * q = ab q * ab q := by unfold ab; split <;> grind
  have := sq_nn (ab q - 52 / 5)
  rw [e]; grind
section
variable {xss : List (List Nat)} {ws gs x : List Nat} {n i : Nat} {xi : Nat → Rat}
def dotR (xss : List (List Nat)) (xi : Nat → Rat) (i : Nat) : Nat → Rat := sm fun j => xV xss j i * xi j
theorem xi_18 (hs : xi 0 * xi 0 + xi 1 * xi 1 + xi 2 * xi 2 ≤ 324) (h0 : ∀ j, 3 ≤ j → xi j = 0) (j : Nat) : Rg (xi j) 18 := by
  have s0 := sq_nn (xi 0)
  have s1 := sq_nn (xi 1)
  have s2 := sq_nn (xi 2)
  have key : ∀ z : Rat, z * z ≤ 18 * 18 → Rg z 18 := fun z hz => by
    constructor
    · have := rsq_le (a := -z) (b := 18) (by decide +kernel) (by grind)
      grind
    · exact rsq_le (by decide +kernel) hz
  rcases (show j = 0 ∨ j = 1 ∨ j = 2 ∨ 3 ≤ j by omega) with rfl | rfl | rfl | h3
  · exact key _ (by grind)
  · exact key _ (by grind)
  · exact key _ (by grind)
  · rw [h0 j h3]; exact key 0 (by decide +kernel)
theorem dotR_bd (h : DDok xss ws gs n) (hi : i < xss.length) (hs : xi 0 * xi 0 + xi 1 * xi 1 + xi 2 * xi 2 ≤ 324) : ∀ k, k ≤ 3 → Rg (dotR xss xi i k) 63 := by
  have a0 := am (q := xi 0) (xV_bd h hi 0)
  have a1 := am (q := xi 1) (xV_bd h hi 1)
  have a2 := am (q := xi 2) (xV_bd h hi 2)
  have s0 := sq_nn (xi 0)
  have s1 := sq_nn (xi 1)
  have s2 := sq_nn (xi 2)
  obtain ⟨a01, a02⟩ := a0
  obtain ⟨a11, a12⟩ := a1
  obtain ⟨a21, a22⟩ := a2
  intro k hk
  rcases (show k = 0 ∨ k = 1 ∨ k = 2 ∨ k = 3 by omega) with rfl | rfl | rfl | rfl
  · show Rg 0 63; exact ⟨by decide +kernel, by decide +kernel⟩
  · show Rg (0 + xV xss 0 i * xi 0) 63; constructor <;> grind
  · show Rg (0 + xV xss 0 i * xi 0 + xV xss 1 i * xi 1) 63; constructor <;> grind
  · show Rg (0 + xV xss 0 i * xi 0 + xV xss 1 i * xi 1 + xV xss 2 i * xi 2) 63; constructor <;> grind
theorem dot_q (h : DDok xss ws gs n) (hi : i < xss.length) (hv : ∀ j, j < n → qv (x.getD j 0) (xi j)) (h0 : ∀ j, n ≤ j → xi j = 0) (hs : xi 0 * xi 0 + xi 1 * xi 1 + xi 2 * xi 2 ≤ 324) : ∀ k, k ≤ n → ∃ z, qv (dotK (xss.getD i []) x k) z ∧ Rg (z - dotR xss xi i k) (128 * u24 * (k : Rat))
  | 0, _ => ⟨0, one_0, by
      have e : (0 : Rat) - dotR xss xi i 0 = 0 := by show (0 : Rat) - 0 = 0; decide +kernel
      have e2 : 128 * u24 * ((0 : Nat) : Rat) = 0 := Rat.mul_zero _
      rw [e, e2]; exact ⟨by decide +kernel, by decide +kernel⟩⟩
  | k + 1, hk => by
    have hn := h.n2
    obtain ⟨z, z1, z2⟩ := dot_q h hi hv h0 hs k (by omega)
    have b1 := dotR_bd h hi hs (k + 1) (by omega)
    have x18 := xi_18 hs (fun j hj => h0 j (by omega)) k
    have px := rmul (xV_bd h hi k) x18
    have qx : qv ((xss.getD i []).getD k 0) (xV xss k i) := dy_qv (h_dy (row_H h hi (show k < n by omega))).1
    obtain ⟨p, p1, p2, p3⟩ := qv_mul p64 (by decide) qx (hv k (by omega)) (by obtain ⟨px, _⟩ := px; grind) (by obtain ⟨_, px⟩ := px; grind)
    have e : dotR xss xi i (k + 1) = dotR xss xi i k + xV xss k i * xi k := rfl
    have hkk : ((k : Nat) : Rat) ≤ ((2 : Nat) : Rat) := Rat.natCast_le_natCast.2 (by omega)
    have e2 : ((2 : Nat) : Rat) = 2 := rfl
    rw [e2] at hkk
    have hk0 : (0 : Rat) ≤ ((k : Nat) : Rat) := Rat.natCast_nonneg
    rw [e] at b1
    obtain ⟨z2, z3⟩ := z2
    obtain ⟨b1, b2⟩ := b1
    unfold u24 at *
    obtain ⟨s, s1, s2, s3⟩ := qv_add p64 (by decide) z1 p1 (by grind) (by grind)
    refine ⟨s, s1, ?_⟩
    rw [e]
    push_cast
    constructor <;> grind
theorem dotR_n (h : DDok xss ws gs n) (h0 : ∀ j, n ≤ j → xi j = 0) : dotR xss xi i n = xV xss 0 i * xi 0 + xV xss 1 i * xi 1 + xV xss 2 i * xi 2 := by
  have h1 := h.n1
  have h2 := h.n2
  rcases (show n = 1 ∨ n = 2 ∨ n = 3 by omega) with rfl | rfl | rfl
  · show 0 + xV xss 0 i * xi 0 = _; rw [h0 1 (by decide), h0 2 (by decide)]; grind
  · show 0 + xV xss 0 i * xi 0 + xV xss 1 i * xi 1 = _; rw [h0 2 (by decide)]; grind
  · show 0 + xV xss 0 i * xi 0 + xV xss 1 i * xi 1 + xV xss 2 i * xi 2 = _; grind
theorem p32h : pw2 5 32 := rfl
theorem p512 : pw2 9 512 := rfl
theorem p256 : pw2 8 256 := rfl
theorem p8192 : pw2 13 8192 := rfl
def muX (xss : List (List Nat)) (ws : List Nat) (xi : Nat → Rat) (i : Nat) : Rat := mu xss ws (xi 0) (xi 1) (xi 2) i
theorem mu_25 (h : DDok xss ws gs n) (hi : i < xss.length) (hF : MR xss ws gs (xi 0) (xi 1) (xi 2) xss.length ≤ 321) : gV gs i * (muX xss ws xi i * muX xss ws xi i) ≤ 321 ∧ Rg (muX xss ws xi i) (127 / 5) := by
  have k := sm_le (f := fun i => gV gs i * (mu xss ws (xi 0) (xi 1) (xi 2) i * mu xss ws (xi 0) (xi 1) (xi 2) i)) xss.length (fun i hi => Rat.mul_nonneg (by have := (gV_bd h hi).1; grind) (sq_nn _)) i hi
  have k1 : gV gs i * (muX xss ws xi i * muX xss ws xi i) ≤ 321 := Rat.le_trans k hF
  refine ⟨k1, ?_⟩
  have k2 := Rat.mul_le_mul_of_nonneg_right (gV_bd h hi).1 (sq_nn (muX xss ws xi i))
  have k3 : muX xss ws xi i * muX xss ws xi i ≤ 127 / 5 * (127 / 5) := by grind
  constructor
  · have := rsq_le (a := -muX xss ws xi i) (b := 127 / 5) (by decide +kernel) (by grind)
    grind
  · exact rsq_le (by decide +kernel) k3
theorem miss_q (h : DDok xss ws gs n) (hl : x.length = n) (hi : i < xss.length) (hv : ∀ j, j < n → qv (x.getD j 0) (xi j)) (h0 : ∀ j, n ≤ j → xi j = 0) (hs : xi 0 * xi 0 + xi 1 * xi 1 + xi 2 * xi 2 ≤ 324) (hF : MR xss ws gs (xi 0) (xi 1) (xi 2) xss.length ≤ 321) :
    ∃ z, qv (missAt xss ws x i) z ∧ Rg (z - muX xss ws xi i) (416 * u24) := by
  have h2 := h.n2
  obtain ⟨d, d1, d2⟩ := dot_q h hi hv h0 hs n (Nat.le_refl _)
  have hkk : ((n : Nat) : Rat) ≤ ((3 : Nat) : Rat) := Rat.natCast_le_natCast.2 h2
  have e2 : ((3 : Nat) : Rat) = 3 := rfl
  rw [e2] at hkk
  have hk0 : (0 : Rat) ≤ ((n : Nat) : Rat) := Rat.natCast_nonneg
  have d3 : Rg (d - dotR xss xi i n) (384 * u24) := d2.mono (by unfold u24; grind)
  obtain ⟨_, m⟩ := mu_25 h hi hF
  have em : muX xss ws xi i = tV ws i - dotR xss xi i n := by rw [dotR_n h h0]; rfl
  have qt : qv (ws.getD i 0) (tV ws i) := dy_qv (w_dy (w_at h hi)).1
  obtain ⟨d3, d4⟩ := d3
  obtain ⟨m1, m2⟩ := m
  unfold u24 at *
  unfold missAt
  rw [hl]
  obtain ⟨z, z1, z2, z3⟩ := qv_sub p32h (by decide) qt d1 (by grind) (by grind)
  exact ⟨z, z1, by constructor <;> grind⟩
theorem term_q (h : DDok xss ws gs n) (hl : x.length = n) (hi : i < xss.length) (hv : ∀ j, j < n → qv (x.getD j 0) (xi j)) (h0 : ∀ j, n ≤ j → xi j = 0) (hs : xi 0 * xi 0 + xi 1 * xi 1 + xi 2 * xi 2 ≤ 324) (hF : MR xss ws gs (xi 0) (xi 1) (xi 2) xss.length ≤ 321) :
    ∃ z, qv (tm xss ws gs x i) z ∧ Rg (z - gV gs i * (muX xss ws xi i * muX xss ws xi i)) (gV gs i * (muX xss ws xi i * muX xss ws xi i) / 160000 + 33 / 100000) := by
  obtain ⟨z, z1, z2⟩ := miss_q h hl hi hv h0 hs hF
  obtain ⟨m1, m2⟩ := mu_25 h hi hF
  have qg : qv (gs.getD i 0) (gV gs i) := dy_qv (g_dyh (g_at h hi)).1
  have hg := gV_rg h hi
  have hg0 : 0 ≤ gV gs i := by have := (gV_bd h hi).1; grind
  generalize muX xss ws xi i = m at *
  generalize gV gs i = g at *
  obtain ⟨d, hd⟩ : ∃ d, d = z - m := ⟨_, rfl⟩
  rw [← hd] at z2
  have ez : z = m + d := by rw [hd]; grind
  have hz : Rg z (51 / 2) := by rw [ez]; exact (m2.add z2).mono (by decide +kernel)
  have hgz := rmul hg hz
  obtain ⟨p, p1, p2, p3⟩ := qv_mul p64 (by decide) qg z1 (by obtain ⟨a, _⟩ := hgz; grind) (by obtain ⟨_, a⟩ := hgz; grind)
  have hη : Rg (p - g * z) (64 * u24) := by unfold u24; constructor <;> grind
  -- squares
  have hdd := (rmul z2 z2).2
  have q1 := sq_nn (m / 400 - 400 * d)
  have q2 := sq_nn (m / 400 + 400 * d)
  have q3 : Rg (2 * (m * d) + d * d) (m * m / 160000 + 160001 * (416 * u24 * (416 * u24))) := by
    have s := sq_nn d
    constructor <;> grind
  have q4 : Rg (g * (2 * (m * d) + d * d)) (g * (m * m) / 160000 + 2 * (160001 * (416 * u24 * (416 * u24)))) := by
    have a := rg_lin q3 hg0
    have k := Rat.mul_le_mul_of_nonneg_right hg.2 (show 0 ≤ 160001 * (416 * u24 * (416 * u24)) by decide +kernel)
    constructor <;> grind
  have q5 := rmul hη hz
  have epz : p * z = g * (m * m) + g * (2 * (m * d) + d * d) + (p - g * z) * z := by rw [ez]; grind
  have c1 : 2 * (160001 * (416 * u24 * (416 * u24))) ≤ (1 / 5000 : Rat) := by decide +kernel
  have c2 : 64 * u24 * (51 / 2) ≤ (98 / 1000000 : Rat) := by decide +kernel
  have c3 : 512 * u24 ≤ (31 / 1000000 : Rat) := by decide +kernel
  have hm0 : 0 ≤ g * (m * m) := Rat.mul_nonneg hg0 (sq_nn m)
  obtain ⟨q4, q6⟩ := q4
  obtain ⟨q5, q7⟩ := q5
  obtain ⟨r, r1, r2, r3⟩ := qv_mul p512 (by decide) p1 z1 (by rw [epz]; grind) (by rw [epz]; grind)
  refine ⟨r, r1, ?_⟩
  rw [epz] at r2 r3
  have c4 : 512 / 16777216 = 512 * u24 := by decide +kernel
  rw [c4] at r2 r3
  constructor <;> grind
theorem sq_q (h : DDok xss ws gs n) (hl : x.length = n) (hv : ∀ j, j < n → qv (x.getD j 0) (xi j)) (h0 : ∀ j, n ≤ j → xi j = 0) (hs : xi 0 * xi 0 + xi 1 * xi 1 + xi 2 * xi 2 ≤ 324) (hF : MR xss ws gs (xi 0) (xi 1) (xi 2) xss.length ≤ 321) :
    ∀ k, k ≤ xss.length → 0 ≤ MR xss ws gs (xi 0) (xi 1) (xi 2) k ∧ MR xss ws gs (xi 0) (xi 1) (xi 2) k ≤ MR xss ws gs (xi 0) (xi 1) (xi 2) xss.length ∧ ∃ z, qv (sqK xss ws gs x k) z ∧ Rg (z - MR xss ws gs (xi 0) (xi 1) (xi 2) k) (MR xss ws gs (xi 0) (xi 1) (xi 2) k / 160000 + 37 / 100000 * (k : Rat)) := by
  have nn : ∀ i, i < xss.length → 0 ≤ gV gs i * (muX xss ws xi i * muX xss ws xi i) := fun i hi => Rat.mul_nonneg (by have := (gV_bd h hi).1; grind) (sq_nn _)
  have es : ∀ k, MR xss ws gs (xi 0) (xi 1) (xi 2) (k + 1) = MR xss ws gs (xi 0) (xi 1) (xi 2) k + gV gs k * (muX xss ws xi k * muX xss ws xi k) := fun _ => rfl
  have up : ∀ m k, k + m = xss.length → MR xss ws gs (xi 0) (xi 1) (xi 2) k ≤ MR xss ws gs (xi 0) (xi 1) (xi 2) xss.length := by
    intro m
    induction m with
    | zero => intro k hk; rw [Nat.add_zero] at hk; rw [hk]; exact Rat.le_refl
    | succ m ih =>
      intro k hk
      have a := ih (k + 1) (by omega)
      have b := nn k (by omega)
      rw [es] at a; grind
  intro k
  induction k with
  | zero =>
    intro _
    have z0 : MR xss ws gs (xi 0) (xi 1) (xi 2) 0 = 0 := rfl
    refine ⟨by rw [z0]; decide +kernel, up xss.length 0 (by omega), 0, one_0, ?_⟩
    rw [z0]
    have e2 : (37 : Rat) / 100000 * ((0 : Nat) : Rat) = 0 := Rat.mul_zero _
    rw [e2]; exact ⟨by decide +kernel, by decide +kernel⟩
  | succ k ih =>
    intro hk
    obtain ⟨i1, i2, z, z1, z2⟩ := ih (by omega)
    obtain ⟨t, t1, t2⟩ := term_q h hl (show k < xss.length by omega) hv h0 hs hF
    have n1 := nn k (by omega)
    have u := up (xss.length - (k + 1)) (k + 1) (by omega)
    have hm := h.m2
    have hkk : ((k : Nat) : Rat) ≤ ((9 : Nat) : Rat) := Rat.natCast_le_natCast.2 (by omega)
    have e2 : ((9 : Nat) : Rat) = 9 := rfl
    rw [e2] at hkk
    have hk0 : (0 : Rat) ≤ ((k : Nat) : Rat) := Rat.natCast_nonneg
    refine ⟨by rw [es]; grind, u, ?_⟩
    rw [es] at u ⊢
    rw [sqK_s]
    generalize MR xss ws gs (xi 0) (xi 1) (xi 2) xss.length = Mt at *
    generalize MR xss ws gs (xi 0) (xi 1) (xi 2) k = Mk at *
    generalize gV gs k * (muX xss ws xi k * muX xss ws xi k) = tk at *
    obtain ⟨z2, z3⟩ := z2
    obtain ⟨t2, t3⟩ := t2
    obtain ⟨s, s1, s2, s3⟩ := qv_add p512 (by decide) z1 t1 (by grind) (by grind)
    refine ⟨s, s1, ?_⟩
    push_cast
    constructor <;> grind
end
end Go.Proofs.Ytgeflnjjppgooaa

namespace Go.Proofs.Ytgeflnjjppgooaa
open Go.RowKit
set_option maxRecDepth 20000
theorem er_sum64 (t : Bool) {x y c : Nat} {X Y : Int} (hc : c ≤ 1900) (hx : apd x X) (hy : apd y Y) (h : (X + (if t then -Y else Y)).natAbs ≤ 2 ^ 53 * 2 ^ c) :
    ∃ Z, apd (((((FloatKind.f64.format.read x).sum (if t then (FloatKind.f64.format.read y).opposite else FloatKind.f64.format.read y)).map FloatKind.f64.format.write).getD (qn .f64))) Z ∧ X + (if t then -Y else Y) - ((2 ^ c : Nat) : Int) ≤ Z ∧ Z ≤ X + (if t then -Y else Y) + ((2 ^ c : Nat) : Int) := by
  obtain ⟨s, M, q, e1, e2, e3, e4⟩ := sum_units hx.1 hy.1 t
  rw [hx.2, hy.2] at e2 e3 e4
  generalize X + (if t then -Y else Y) = V at *
  have hn : M * 2 ^ q ≤ 2 ^ 53 * 2 ^ c * 2 ^ 0 := by rw [e2, Nat.pow_zero, Nat.mul_one]; exact h
  obtain ⟨r, r1, r2, r3, r4⟩ := er_core64 s (a := 0) (b := q) (e := FloatKind.f64.format.leastPlace + (q : Int)) hc (by omega) hn
  rw [Nat.pow_zero, Nat.mul_one, Nat.mul_one, e2] at r3 r4
  have hw : (((FloatKind.f64.format.read x).sum (if t then (FloatKind.f64.format.read y).opposite else FloatKind.f64.format.read y)).map FloatKind.f64.format.write).getD (qn .f64) = FloatKind.f64.format.word s r := by
    rw [e1]; exact r1
  rw [hw]
  exact ⟨_, apd_word s r2, er_sign rfl e3 e4 r3 r4⟩
attribute [local irreducible] D9 D7 UU WW W9
section
variable {x y : Nat} {p q K : Rat} {k : Nat}
theorem dv_pow {K : Rat} {k P c : Nat} (hP : P = 1074) (hK : pw2 k K) (hc : c + 53 = P + k) : ((2 ^ 53 * 2 ^ c : Nat) : Rat) = K * W9 ∧ ((2 ^ c : Nat) : Rat) = K / 9007199254740992 * W9 := by
  have e1 := W9_pow hP
  have e2 : ((2 ^ 53 * 2 ^ c : Nat) : Rat) = K * W9 := by
    rw [hK, e1, ← Rat.natCast_mul, ← Nat.pow_add, ← Nat.pow_add]
    congr 2; omega
  refine ⟨e2, ?_⟩
  rw [Rat.natCast_mul] at e2
  have : ((2 ^ 53 : Nat) : Rat) = 9007199254740992 := by rfl
  rw [this] at e2
  grind
theorem dv_add (hK : pw2 k K) (hk : k ≤ 70) (hx : dv x p) (hy : dv y q) (h1 : -K ≤ p + q) (h2 : p + q ≤ K) : ∃ z, dv (fop .add .f64 x y) z ∧ p + q - K / 9007199254740992 ≤ z ∧ z ≤ p + q + K / 9007199254740992 := by
  obtain ⟨X, hX, eX⟩ := hx
  obtain ⟨Y, hY, eY⟩ := hy
  obtain ⟨P, hP⟩ : ∃ P : Nat, P = 1074 := ⟨_, rfl⟩
  have hp := W9_pos
  obtain ⟨c, hc⟩ : ∃ c : Nat, c + 53 = P + k := ⟨P + k - 53, by omega⟩
  obtain ⟨e1, e2⟩ := dv_pow hP hK hc
  have eS : ((X + Y : Int) : Rat) = (p + q) * W9 := by rw [Rat.intCast_add, eX, eY]; grind
  obtain ⟨Z, z1, z2, z3⟩ := er_sum64 false (c := c) (by omega) hX hY (nat_of_q (by
    simp only [Bool.false_eq_true, if_false]
    rw [e1]
    refine abs_int (c := K * W9) ?_ ?_ rfl
    · rw [eS]
      have := Rat.mul_le_mul_of_nonneg_right h1 (Rat.le_of_lt hp)
      grind
    · rw [eS]
      exact Rat.mul_le_mul_of_nonneg_right h2 (Rat.le_of_lt hp)))
  simp only [Bool.false_eq_true, if_false] at z1 z2 z3
  obtain ⟨z, hz⟩ : ∃ z : Rat, (Z : Rat) = z * W9 := ⟨(Z : Rat) / W9, by grind⟩
  have c1 : (((2 ^ c : Nat) : Int) : Rat) = K / 9007199254740992 * W9 := e2
  refine ⟨z, ⟨Z, z1, hz⟩, ?_, ?_⟩
  · have := (Rat.intCast_le_intCast).2 z2
    rw [Rat.intCast_sub, eS, c1, hz] at this
    exact Rat.le_of_mul_le_mul_right (c := W9) (by grind) hp
  · have := (Rat.intCast_le_intCast).2 z3
    rw [Rat.intCast_add (X + Y), eS, c1, hz] at this
    exact Rat.le_of_mul_le_mul_right (c := W9) (by grind) hp
theorem dv_ngt (hx : dv x p) (hy : dv y q) (h : p ≤ q) : fcmp .gtr .f64 x y = false := by
  obtain ⟨X, hX, eX⟩ := hx
  obtain ⟨Y, hY, eY⟩ := hy
  show (FloatKind.f64.format.order x y == some .gt) = false
  have h9 : X ≤ Y := by
    rw [← Rat.intCast_le_intCast, eX, eY]
    exact Rat.mul_le_mul_of_nonneg_right h (Rat.le_of_lt W9_pos)
  rw [order_number hX.1 hY.1, hX.2, hY.2]
  rcases Int.lt_trichotomy X Y with h | h | h
  · rw [Int.compare_eq_lt.2 h]; rfl
  · rw [compare_eq.2 h]; rfl
  · omega
theorem dv_lss (hx : dv x p) (hy : dv y q) : fcmp .lss .f64 x y = decide (p < q) := by
  obtain ⟨X, hX, eX⟩ := hx
  obtain ⟨Y, hY, eY⟩ := hy
  show (FloatKind.f64.format.order x y == some .lt) = _
  rw [order_number hX.1 hY.1, hX.2, hY.2]
  have key : X < Y ↔ p < q := by
    rw [← Rat.intCast_lt_intCast, eX, eY]
    exact ⟨fun h => Rat.lt_of_mul_lt_mul_right h (Rat.le_of_lt W9_pos), fun h => Rat.mul_lt_mul_of_pos_right h W9_pos⟩
  rcases Int.lt_trichotomy X Y with h | h | h
  · rw [Int.compare_eq_lt.2 h, decide_eq_true (key.1 h)]; rfl
  · rw [compare_eq.2 h, decide_eq_false (fun g => by have := key.2 g; omega)]; rfl
  · rw [Int.compare_eq_gt.2 h, decide_eq_false (fun g => by have := key.2 g; omega)]; rfl
end
end Go.Proofs.Ytgeflnjjppgooaa

namespace Go.Proofs.Ytgeflnjjppgooaa
open Go.RowKit
set_option maxRecDepth 20000
theorem dv_c01' : dv 4576918229304087675 (5764607523034235 / 576460752303423488) := ⟨5764607523034235 * 2 ^ 1015, ⟨by decide +kernel, by decide +kernel⟩, by decide +kernel⟩
theorem least_hf : least 1056964608 = true := by decide +kernel
theorem dz64 : dv 0 0 := ⟨0, ⟨by decide +kernel, by decide +kernel⟩, by rw [Rat.zero_mul]; rfl⟩
attribute [local irreducible] D9 D7 UU WW W9
section
variable {x y : Nat} {p q K : Rat} {k : Nat}
theorem dv_sub (hK : pw2 k K) (hk : k ≤ 70) (hx : dv x p) (hy : dv y q) (h1 : -K ≤ p - q) (h2 : p - q ≤ K) : ∃ z, dv (fop .sub .f64 x y) z ∧ p - q - K / 9007199254740992 ≤ z ∧ z ≤ p - q + K / 9007199254740992 := by
  obtain ⟨X, hX, eX⟩ := hx
  obtain ⟨Y, hY, eY⟩ := hy
  obtain ⟨P, hP⟩ : ∃ P : Nat, P = 1074 := ⟨_, rfl⟩
  have hp := W9_pos
  obtain ⟨c, hc⟩ : ∃ c : Nat, c + 53 = P + k := ⟨P + k - 53, by omega⟩
  obtain ⟨e1, e2⟩ := dv_pow hP hK hc
  have eS : ((X + -Y : Int) : Rat) = (p - q) * W9 := by rw [Rat.intCast_add, Rat.intCast_neg, eX, eY]; grind
  obtain ⟨Z, z1, z2, z3⟩ := er_sum64 true (c := c) (by omega) hX hY (nat_of_q (by
    simp only [if_true]
    rw [e1]
    refine abs_int (c := K * W9) ?_ ?_ rfl
    · rw [eS]
      have := Rat.mul_le_mul_of_nonneg_right h1 (Rat.le_of_lt hp)
      grind
    · rw [eS]
      exact Rat.mul_le_mul_of_nonneg_right h2 (Rat.le_of_lt hp)))
  simp only [if_true] at z1 z2 z3
  obtain ⟨z, hz⟩ : ∃ z : Rat, (Z : Rat) = z * W9 := ⟨(Z : Rat) / W9, by grind⟩
  have c1 : (((2 ^ c : Nat) : Int) : Rat) = K / 9007199254740992 * W9 := e2
  refine ⟨z, ⟨Z, z1, hz⟩, ?_, ?_⟩
  · have := (Rat.intCast_le_intCast).2 z2
    rw [Rat.intCast_sub, eS, c1, hz] at this
    exact Rat.le_of_mul_le_mul_right (c := W9) (by grind) hp
  · have := (Rat.intCast_le_intCast).2 z3
    rw [Rat.intCast_add (X + -Y), eS, c1, hz] at this
    exact Rat.le_of_mul_le_mul_right (c := W9) (by grind) hp
end
section
variable {xss : List (List Nat)} {ws gs l x ys : List Nat} {n i : Nat} {xi : Nat → Rat} {lam : Nat → Nat → Rat}
theorem sm3 (h1 : 1 ≤ n) (h2 : n ≤ 3) (h0 : ∀ j, n ≤ j → xi j = 0) : sm (fun j => xi j * xi j) n = xi 0 * xi 0 + xi 1 * xi 1 + xi 2 * xi 2 := by
  rcases (show n = 1 ∨ n = 2 ∨ n = 3 by omega) with rfl | rfl | rfl
  · show 0 + xi 0 * xi 0 = _; rw [h0 1 (by decide), h0 2 (by decide)]; grind
  · show 0 + xi 0 * xi 0 + xi 1 * xi 1 = _; rw [h0 2 (by decide)]; grind
  · show 0 + xi 0 * xi 0 + xi 1 * xi 1 + xi 2 * xi 2 = _; grind
theorem self_q (hn : n ≤ 3) (hv : ∀ j, j < n → qv (x.getD j 0) (xi j)) (h0 : ∀ j, n ≤ j → xi j = 0) (hs : xi 0 * xi 0 + xi 1 * xi 1 + xi 2 * xi 2 ≤ 324) : ∀ k, k ≤ n → ∃ z, qv (dotK x x k) z ∧ Rg (z - sm (fun j => xi j * xi j) k) (1024 * u24 * (k : Rat))
  | 0, _ => ⟨0, one_0, by
      have e : (0 : Rat) - sm (fun j => xi j * xi j) 0 = 0 := by show (0 : Rat) - 0 = 0; decide +kernel
      have e2 : 1024 * u24 * ((0 : Nat) : Rat) = 0 := Rat.mul_zero _
      rw [e, e2]; exact ⟨by decide +kernel, by decide +kernel⟩⟩
  | k + 1, hk => by
    obtain ⟨z, z1, z2⟩ := self_q hn hv h0 hs k (by omega)
    have s0 := sq_nn (xi 0)
    have s1 := sq_nn (xi 1)
    have s2 := sq_nn (xi 2)
    have hb : 0 ≤ sm (fun j => xi j * xi j) k ∧ 0 ≤ xi k * xi k ∧ sm (fun j => xi j * xi j) k + xi k * xi k ≤ 324 := by
      rcases (show k = 0 ∨ k = 1 ∨ k = 2 by omega) with rfl | rfl | rfl
      · refine ⟨by show (0 : Rat) ≤ 0; decide +kernel, s0, ?_⟩; show 0 + xi 0 * xi 0 ≤ 324; grind
      · refine ⟨by show 0 ≤ 0 + xi 0 * xi 0; grind, s1, ?_⟩; show 0 + xi 0 * xi 0 + xi 1 * xi 1 ≤ 324; grind
      · refine ⟨by show 0 ≤ 0 + xi 0 * xi 0 + xi 1 * xi 1; grind, s2, ?_⟩; show 0 + xi 0 * xi 0 + xi 1 * xi 1 + xi 2 * xi 2 ≤ 324; grind
    obtain ⟨b1, b2, b3⟩ := hb
    obtain ⟨p, p1, p2, p3⟩ := qv_mul p512 (by decide) (hv k (by omega)) (hv k (by omega)) (by grind) (by grind)
    have e : sm (fun j => xi j * xi j) (k + 1) = sm (fun j => xi j * xi j) k + xi k * xi k := rfl
    have hkk : ((k : Nat) : Rat) ≤ ((2 : Nat) : Rat) := Rat.natCast_le_natCast.2 (by omega)
    have e2 : ((2 : Nat) : Rat) = 2 := rfl
    rw [e2] at hkk
    have hk0 : (0 : Rat) ≤ ((k : Nat) : Rat) := Rat.natCast_nonneg
    obtain ⟨z2, z3⟩ := z2
    unfold u24 at *
    obtain ⟨s, s1, s2, s3⟩ := qv_add p512 (by decide) z1 p1 (by grind) (by grind)
    refine ⟨s, s1, ?_⟩
    rw [e]
    push_cast
    constructor <;> grind
theorem FitR.cost (F : FitR xss ws gs n l x xi lam) (h : DDok xss ws gs n) : ridgeOk xss ws gs x 1056964608 = true ∧ ∃ z, qv (ridgeD xss ws gs x 1056964608) z ∧ ∀ r s t, z ≤ fRo xss ws gs r s t + 7 / 1000 := by
  have hok : ridgeOk xss ws gs x 1056964608 = true := by unfold ridgeOk; rw [dd_fits h F.xl, least_hf]; rfl
  refine ⟨hok, ?_⟩
  rw [ridgeD_yes hok]
  have hn := h.n2
  have h00 : fRo xss ws gs 0 0 0 ≤ 320 := by
    unfold fRo
    rw [form_sm]
    have := CR_bd h
    unfold qd
    grind
  have hb := F.best 0 0 0
  have hs := F.xs
  have s0 := sq_nn (xi 0)
  have s1 := sq_nn (xi 1)
  have s2 := sq_nn (xi 2)
  have hF9 : fRo xss ws gs (xi 0) (xi 1) (xi 2) = MR xss ws gs (xi 0) (xi 1) (xi 2) xss.length + (xi 0 * xi 0 + xi 1 * xi 1 + xi 2 * xi 2) / 2 := rfl
  have hF : MR xss ws gs (xi 0) (xi 1) (xi 2) xss.length ≤ 321 := by grind
  obtain ⟨m0, _, z, z1, z2, z3⟩ := sq_q h F.xl F.xv F.x0 hs hF xss.length (Nat.le_refl _)
  obtain ⟨d, d1, d2, d3⟩ := self_q hn F.xv F.x0 hs n (Nat.le_refl _)
  rw [sm3 h.n1 hn F.x0] at d2 d3
  rw [F.xl]
  have hkk : ((n : Nat) : Rat) ≤ ((3 : Nat) : Rat) := Rat.natCast_le_natCast.2 hn
  have e2 : ((3 : Nat) : Rat) = 3 := rfl
  rw [e2] at hkk
  have hmm : ((xss.length : Nat) : Rat) ≤ ((10 : Nat) : Rat) := Rat.natCast_le_natCast.2 h.m2
  have e3 : ((10 : Nat) : Rat) = 10 := rfl
  rw [e3] at hmm
  have hX : 0 ≤ xi 0 * xi 0 + xi 1 * xi 1 + xi 2 * xi 2 := by grind
  generalize MR xss ws gs (xi 0) (xi 1) (xi 2) xss.length = Mt at *
  generalize xi 0 * xi 0 + xi 1 * xi 1 + xi 2 * xi 2 = X at *
  unfold u24 at *
  obtain ⟨e, f1, f2, f3⟩ := qv_mul p256 (by decide) hf_q d1 (by grind) (by grind)
  obtain ⟨c, c1, c2, c3⟩ := qv_add p512 (by decide) z1 f1 (by grind) (by grind)
  refine ⟨c, c1, fun r s t => ?_⟩
  have hb2 := F.best r s t
  rw [hF9] at hb2
  grind
def yV (ys : List Nat) (j : Nat) : Rat := va (ys.getD j 0)
theorem Q_at (hy : ∀ y ∈ ys, Q17 y) (hl : ys.length = n) {j : Nat} (hj : j < n) : ∃ v : Int, v.natAbs ≤ 8 ∧ dy .f32 (ys.getD j 0) (32 * v) ∧ yV ys j = (v : Rat) / 4 := by
  obtain ⟨v, v1, v2, _⟩ := hQ (getD_H hy (show j < ys.length by omega) 0)
  refine ⟨v, v1, v2, ?_⟩
  unfold yV
  rw [dy_va v2]; push_cast; grind
theorem yV_0 (hl : ys.length = n) (j : Nat) (hj : n ≤ j) : yV ys j = 0 := by
  unfold yV
  rw [List.getD_eq_getElem?_getD, List.getElem?_eq_none (by omega)]; exact va_0
theorem dot_y (h : DDok xss ws gs n) (hi : i < xss.length) (hy : ∀ y ∈ ys, Q17 y) (hl : ys.length = n) : ∀ k, k ≤ n → ∃ D : Int, D.natAbs ≤ 32 * k ∧ dy .f32 (dotK (xss.getD i []) ys k) (16 * D) ∧ (D : Rat) / 8 = dotR xss (yV ys) i k
  | 0, _ => ⟨0, by decide, dy_z, by show ((0 : Int) : Rat) / 8 = 0; decide +kernel⟩
  | k + 1, hk => by
    have hn := h.n2
    obtain ⟨D, d1, d2, d3⟩ := dot_y h hi hy hl k (by omega)
    obtain ⟨u2, u1⟩ := h_dy (row_H h hi (show k < n by omega))
    obtain ⟨v, v1, v2, v3⟩ := Q_at hy hl (show k < n by omega)
    have hb2 := natAbs_mul_le u1 v1
    have hm := dy_mul (c := 16 * (hvI (rowK xss i k) * v)) u2 v2 (by grind) (by omega)
    have ha2 := dy_add d2 hm (by omega)
    have e : dotR xss (yV ys) i (k + 1) = dotR xss (yV ys) i k + xV xss k i * yV ys k := rfl
    have x1 : xV xss k i = _ := va_half u2
    refine ⟨D + hvI (rowK xss i k) * v, by omega, by rw [dotK, Int.mul_add]; exact ha2, ?_⟩
    rw [e, ← d3, x1, v3]; push_cast; grind
theorem miss_y (h : DDok xss ws gs n) (hi : i < xss.length) (hy : ∀ y ∈ ys, Q17 y) (hl : ys.length = n) : ∃ t : Int, t.natAbs ≤ 128 ∧ dy .f32 (missAt xss ws ys i) (16 * t) ∧ (t : Rat) / 8 = muX xss ws (yV ys) i := by
  obtain ⟨D, d1, d2, d3⟩ := dot_y h hi hy hl n (Nat.le_refl _)
  obtain ⟨v2, v1⟩ := w_dy (w_at h hi)
  have hn := h.n2
  have := dy_sub v2 d2 (by omega)
  refine ⟨4 * hvI (ws.getD i 0) - D, by omega, by unfold missAt; rw [hl, show 16 * (4 * hvI (ws.getD i 0) - D) = 64 * hvI (ws.getD i 0) - 16 * D by omega]; exact this, ?_⟩
  have em : muX xss ws (yV ys) i = tV ws i - dotR xss (yV ys) i n := by rw [dotR_n h (yV_0 hl)]; rfl
  have t1 : tV ws i = _ := va_half v2
  rw [em, ← d3, t1]; push_cast; grind
theorem term_y (h : DDok xss ws gs n) (hi : i < xss.length) (hy : ∀ y ∈ ys, Q17 y) (hl : ys.length = n) : ∃ T : Int, T.natAbs ≤ 65536 ∧ dy .f32 (tm xss ws gs ys i) T ∧ (T : Rat) / 128 = gV gs i * (muX xss ws (yV ys) i * muX xss ws (yV ys) i) := by
  obtain ⟨t, t1, t2, t3⟩ := miss_y h hi hy hl
  obtain ⟨g2, g0, g1⟩ := g_dyh (g_at h hi)
  have b1 := natAbs_mul_le (a := hvI (gs.getD i 0)) (b := t) (m := 4) (n := 128) (by omega) t1
  have b2 := natAbs_mul_le b1 t1
  have hm := dy_mul (c := 8 * (hvI (gs.getD i 0) * t)) g2 t2 (by grind) (by omega)
  have hm2 := dy_mul (c := hvI (gs.getD i 0) * t * t) hm t2 (by grind) (by omega)
  refine ⟨_, by omega, hm2, ?_⟩
  have e1 : gV gs i = _ := va_half g2
  rw [e1, ← t3]; push_cast; grind
theorem sq_y (h : DDok xss ws gs n) (hy : ∀ y ∈ ys, Q17 y) (hl : ys.length = n) : ∀ k, k ≤ xss.length → ∃ S : Int, S.natAbs ≤ 65536 * k ∧ dy .f32 (sqK xss ws gs ys k) S ∧ (S : Rat) / 128 = MR xss ws gs (yV ys 0) (yV ys 1) (yV ys 2) k
  | 0, _ => ⟨0, by decide, dy_z, by show ((0 : Int) : Rat) / 128 = 0; decide +kernel⟩
  | k + 1, hk => by
    have hm := h.m2
    obtain ⟨S, s1, s2, s3⟩ := sq_y h hy hl k (by omega)
    obtain ⟨T, t1, t2, t3⟩ := term_y h (show k < xss.length by omega) hy hl
    have es : MR xss ws gs (yV ys 0) (yV ys 1) (yV ys 2) (k + 1) = MR xss ws gs (yV ys 0) (yV ys 1) (yV ys 2) k + gV gs k * (muX xss ws (yV ys) k * muX xss ws (yV ys) k) := rfl
    refine ⟨S + T, by omega, by rw [sqK_s]; exact dy_add s2 t2 (by omega), ?_⟩
    rw [es, ← s3, ← t3]; push_cast; grind
theorem self_y (hn : n ≤ 3) (hy : ∀ y ∈ ys, Q17 y) (hl : ys.length = n) : ∀ k, k ≤ n → ∃ D : Int, D.natAbs ≤ 64 * k ∧ dy .f32 (dotK ys ys k) (8 * D) ∧ (D : Rat) / 16 = sm (fun j => yV ys j * yV ys j) k
  | 0, _ => ⟨0, by decide, dy_z, by show ((0 : Int) : Rat) / 16 = 0; decide +kernel⟩
  | k + 1, hk => by
    obtain ⟨D, d1, d2, d3⟩ := self_y hn hy hl k (by omega)
    obtain ⟨v, v1, v2, v3⟩ := Q_at hy hl (show k < n by omega)
    have hb2 := natAbs_mul_le v1 v1
    have hm := dy_mul (c := 8 * (v * v)) v2 v2 (by grind) (by omega)
    have ha2 := dy_add d2 hm (by omega)
    have e : sm (fun j => yV ys j * yV ys j) (k + 1) = sm (fun j => yV ys j * yV ys j) k + yV ys k * yV ys k := rfl
    refine ⟨D + v * v, by omega, by rw [dotK, Int.mul_add]; exact ha2, ?_⟩
    rw [e, ← d3, v3]; push_cast; grind
theorem other_q (h : DDok xss ws gs n) (hy : ∀ y ∈ ys, Q17 y) (hl : ys.length = n) : ridgeOk xss ws gs ys 1056964608 = true ∧ qv (ridgeD xss ws gs ys 1056964608) (fRo xss ws gs (yV ys 0) (yV ys 1) (yV ys 2)) ∧ Rg (fRo xss ws gs (yV ys 0) (yV ys 1) (yV ys 2)) 8000 := by
  have hok : ridgeOk xss ws gs ys 1056964608 = true := by unfold ridgeOk; rw [dd_fits h hl, least_hf]; rfl
  have hn := h.n2
  have hm2 := h.m2
  obtain ⟨S, s1, s2, s3⟩ := sq_y h hy hl xss.length (Nat.le_refl _)
  obtain ⟨D, d1, d2, d3⟩ := self_y hn hy hl n (Nat.le_refl _)
  rw [sm3 h.n1 hn (yV_0 hl)] at d3
  have hm := dy_mul (c := 4 * D) half_dy d2 (by grind) (by omega)
  have ha := dy_add s2 hm (by omega)
  have e : ((S + 4 * D : Int) : Rat) / 128 = fRo xss ws gs (yV ys 0) (yV ys 1) (yV ys 2) := by
    unfold fRo
    rw [← s3, ← d3]; push_cast; grind
  refine ⟨hok, ?_, ?_⟩
  · rw [ridgeD_yes hok, hl, ← e]; exact qv_dy ha
  · rw [← e]
    have hI := int_rg (v := S + 4 * D) (m := 656128) (by omega)
    obtain ⟨i1, i2⟩ := hI
    have e9 : ((656128 : Nat) : Rat) = 656128 := rfl
    rw [e9] at i1 i2
    constructor <;> grind
theorem FitR.less (F : FitR xss ws gs n l x xi lam) (h : DDok xss ws gs n) (hy : ∀ y ∈ ys, Q17 y) (hl : ys.length = n) : fcmp .gtr .f32 (ridgeD xss ws gs x 1056964608) (fop .add .f32 (ridgeD xss ws gs ys 1056964608) 1008981770) = false := by
  obtain ⟨_, z, z1, z2⟩ := F.cost h
  obtain ⟨_, o1, o2, o3⟩ := other_q h hy hl
  have z3 := z2 (yV ys 0) (yV ys 1) (yV ys 2)
  generalize fRo xss ws gs (yV ys 0) (yV ys 1) (yV ys 2) = f at *
  obtain ⟨s, s1, s2, s3⟩ := qv_add p8192 (by decide) o1 c01_q (by grind) (by grind)
  exact qv_ngt z1 s1 (by grind)
end
end Go.Proofs.Ytgeflnjjppgooaa

namespace Go.Proofs.Ytgeflnjjppgooaa
open Go.RowKit
set_option maxRecDepth 20000
theorem dv_m1 : dv 4562254508917369340 (1152921504606847 / 1152921504606846976) := ⟨1152921504606847 * 2 ^ 1014, ⟨by decide +kernel, by decide +kernel⟩, by decide +kernel⟩
theorem neq00 : fcmp .neq .f32 0 0 = false := by decide +kernel
theorem half64 : dy .f64 4602678819172646912 64 := by
  refine ⟨by decide, by decide, ?_⟩
  decide +kernel
attribute [local irreducible] D9 D7 UU WW W9
def gapF (a b : Nat) : Nat := if fcmp .lss .f64 a b then fop .sub .f64 b a else fop .sub .f64 a b
def sumL (l : List Nat) (n j k : Nat) : Nat → Nat
  | 0 => 0
  | i + 1 => fop .add .f64 (sumL l n j k i) (fop .mul .f64 (up (l.getD (j * n + i) 0)) (up (l.getD (k * n + i) 0)))
def sumB (xss : List (List Nat)) (gs : List Nat) (n t : Nat) : Nat → Nat
  | 0 => 0
  | b + 1 => fop .add .f64 (sumB xss gs n t b) (up ((blockA xss gs (b * 8) (min 8 (xss.length - b * 8)) n).getD t 0))
section
variable {xss : List (List Nat)} {ws gs l x ys : List Nat} {n i j k : Nat} {xi : Nat → Rat} {lam : Nat → Nat → Rat}
theorem dv_dy0 {x : Nat} (h : dy .f64 x 0) : dv x 0 := ⟨0, ⟨h.2.1, by rw [h.2.2, Int.zero_mul]⟩, by rw [Rat.zero_mul]; rfl⟩
theorem dy_eqf {x y : Nat} {v : Int} (hx : dy .f32 x v) (hy : dy .f32 y v) : fcmp .neq .f32 x y = false := by
  show (!(FloatKind.f32.format.order x y == some .eq)) = false
  rw [dy_cmp hx hy, compare_eq.2 rfl]; rfl
theorem gap_same {x y c : Nat} {v : Int} {q : Rat} (hx : dy .f64 x v) (hy : dy .f64 y v) (hc : dv c q) (hq : 0 ≤ q) : fcmp .gtr .f64 (gapF x y) c = false := by
  unfold gapF
  rw [lss_same hx hy, if_neg (by decide)]
  have h := dy_sub hx hy (by rw [Int.sub_self]; decide)
  rw [Int.sub_self] at h
  exact dv_ngt (dv_dy0 h) hc hq
/-- symmetric -/
theorem sym_A (h : DDok xss ws gs n) (hj : j < n) (hk : k < n) : fcmp .neq .f32 ((normA xss gs 1056964608).getD (j * n + k) 0) ((normA xss gs 1056964608).getD (k * n + j) 0) = false := by
  have a := normA_dy h hj hk
  have b := normA_dy h hk hj
  rw [siA_sym k j] at b
  by_cases g : j = k
  · rw [if_pos g] at a; rw [if_pos g.symm] at b; exact dy_eqf a b
  · rw [if_neg g] at a; rw [if_neg (fun e => g e.symm)] at b; exact dy_eqf a b
theorem sumL_dv (F : FitR xss ws gs n l x xi lam) (hn : n ≤ 3) (hj : j < n) (hk : k < n) : ∀ i, i ≤ n → ∃ z, dv (sumL l n j k i) z ∧ Rg (z - sm (fun i => lam j i * lam k i) i) (1 / 1000000 * (i : Rat)) ∧ Rg (sm (fun i => lam j i * lam k i) i) (82 * (i : Rat))
  | 0, _ => ⟨0, dz64, by
      have e : (0 : Rat) - sm (fun i => lam j i * lam k i) 0 = 0 := by show (0 : Rat) - 0 = 0; decide +kernel
      have e2 : (1 : Rat) / 1000000 * ((0 : Nat) : Rat) = 0 := Rat.mul_zero _
      rw [e, e2]; exact ⟨by decide +kernel, by decide +kernel⟩, by
      have e2 : (82 : Rat) * ((0 : Nat) : Rat) = 0 := Rat.mul_zero _
      rw [e2]; show Rg (0 : Rat) 0; exact ⟨by decide +kernel, by decide +kernel⟩⟩
  | i + 1, hi => by
    obtain ⟨z, z1, z2, z3⟩ := sumL_dv F hn hj hk i (by omega)
    obtain ⟨a1, a2⟩ := F.lv j i hj (by omega)
    obtain ⟨b1, b2⟩ := F.lv k i hk (by omega)
    have m := dv_mul a1 b1
    have r := (rmul a2 b2).mono (show _ ≤ (82 : Rat) by decide +kernel)
    have e : sm (fun i => lam j i * lam k i) (i + 1) = sm (fun i => lam j i * lam k i) i + lam j i * lam k i := rfl
    have hkk : ((i : Nat) : Rat) ≤ ((2 : Nat) : Rat) := Rat.natCast_le_natCast.2 (by omega)
    have e2 : ((2 : Nat) : Rat) = 2 := rfl
    rw [e2] at hkk
    have hk0 : (0 : Rat) ≤ ((i : Nat) : Rat) := Rat.natCast_nonneg
    have r3 := z3.add r
    rw [e]
    obtain ⟨r1, r2⟩ := r
    obtain ⟨z4, z5⟩ := z2
    obtain ⟨z6, z7⟩ := z3
    obtain ⟨s, s1, s2, s3⟩ := dv_add p512 (by decide) z1 m (by grind) (by grind)
    refine ⟨s, s1, ?_, r3.mono (by push_cast; grind)⟩
    push_cast
    constructor <;> grind
theorem sm_n {f : Nat → Rat} (h1 : 1 ≤ n) (h2 : n ≤ 3) (h0 : ∀ j, n ≤ j → f j = 0) : sm f n = f 0 + f 1 + f 2 := by
  rcases (show n = 1 ∨ n = 2 ∨ n = 3 by omega) with rfl | rfl | rfl
  · show 0 + f 0 = _; rw [h0 1 (by decide), h0 2 (by decide)]; grind
  · show 0 + f 0 + f 1 = _; rw [h0 2 (by decide)]; grind
  · show 0 + f 0 + f 1 + f 2 = _; grind
/-- The triangle's product is the square, nearly. -/
theorem FitR.prod (F : FitR xss ws gs n l x xi lam) (h : DDok xss ws gs n) (hj : j < n) (hk : k < n) : fcmp .gtr .f64 (gapF (sumL l n j k n) (up ((normA xss gs 1056964608).getD (j * n + k) 0))) 4576918229304087675 = false := by
  obtain ⟨z, z1, z2, z3⟩ := sumL_dv F h.n2 hj hk n (Nat.le_refl _)
  have a := qv_up (normA_qv h hj hk)
  have e := F.le j k hj hk
  have s := sm_n (f := fun i => lam j i * lam k i) h.n1 h.n2 (fun i hi => by show lam j i * lam k i = 0; rw [F.lo j i hj hi]; exact Rat.zero_mul _)
  have s' : sm (fun i => lam j i * lam k i) n = lam j 0 * lam k 0 + lam j 1 * lam k 1 + lam j 2 * lam k 2 := s
  rw [← s'] at e
  have hA : Rg (AR xss gs j k xss.length + if j = k then 1 / 2 else 0) 81 := by
    have b := AR_bd h j k
    obtain ⟨b1, b2⟩ := b
    split <;> constructor <;> grind
  generalize (AR xss gs j k xss.length + if j = k then 1 / 2 else 0) = A at *
  have hkk : ((n : Nat) : Rat) ≤ ((3 : Nat) : Rat) := Rat.natCast_le_natCast.2 h.n2
  have e2 : ((3 : Nat) : Rat) = 3 := rfl
  rw [e2] at hkk
  have hd : Rg (z - A) (1 / 1000) := by
    have e9 : z - A = (z - sm (fun i => lam j i * lam k i) n) + (sm (fun i => lam j i * lam k i) n - A) := by grind
    rw [e9]; exact (z2.add e).mono (by grind)
  obtain ⟨d1, d2⟩ := hd
  unfold gapF
  rw [dv_lss z1 a]
  have p1 : pw2 0 1 := rfl
  split
  · obtain ⟨g, g1, g2, g3⟩ := dv_sub p1 (by decide) a z1 (by grind) (by grind)
    exact dv_ngt g1 dv_c01' (by grind)
  · obtain ⟨g, g1, g2, g3⟩ := dv_sub p1 (by decide) z1 a (by grind) (by grind)
    exact dv_ngt g1 dv_c01' (by grind)
theorem FitR.tri (F : FitR xss ws gs n l x xi lam) (hj : j < n) (hk : k < n) (hjk : j < k) : fcmp .neq .f32 (l.getD (j * n + k) 0) 0 = false := by rw [F.lz j k hj hk hjk]; exact neq00
theorem sumB_dy (h : DDok xss ws gs n) (hj : j < n) (hk : k < n) : ∀ b, dy .f64 (sumB xss gs n (j * n + k) b) (16 * siA xss gs j k (min (b * 8) xss.length))
  | 0 => by rw [sumB, Nat.zero_mul, Nat.zero_min]; exact dy_z
  | b + 1 => by
    have ih := sumB_dy h hj hk b
    have hm := h.m2
    rw [sumB, blockA_get hj hk]
    by_cases hb : b * 8 ≤ xss.length
    · have p := dy_up (blkA_dy h hj hk (fr := b * 8) (min 8 (xss.length - b * 8)) (by omega))
      have e1 : min (b * 8) xss.length = b * 8 := by omega
      have e2 : b * 8 + min 8 (xss.length - b * 8) = min ((b + 1) * 8) xss.length := by omega
      rw [e1] at ih
      rw [e2] at p
      have c1 := siA_bd h hj hk (b * 8) hb
      have c2 := siA_bd h hj hk (min ((b + 1) * 8) xss.length) (by omega)
      have s := dy_add ih p (by omega)
      rwa [show 16 * siA xss gs j k (b * 8) + 16 * (siA xss gs j k (min ((b + 1) * 8) xss.length) - siA xss gs j k (b * 8)) = 16 * siA xss gs j k (min ((b + 1) * 8) xss.length) by omega] at s
    · have e0 : min 8 (xss.length - b * 8) = 0 := by omega
      have e1 : min (b * 8) xss.length = xss.length := by omega
      have e2 : min ((b + 1) * 8) xss.length = xss.length := by omega
      rw [e1] at ih
      rw [e0, e2]
      have c1 := siA_bd h hj hk xss.length (Nat.le_refl _)
      have s := dy_add ih (dy_up (dy_z (k := .f32))) (by omega)
      rwa [Int.add_zero] at s
theorem idx_mod (hn : n ≤ 3) (hj : j < n) (hk : k < n) : (j * n + k) % (n + 1) = 0 ↔ j = k := by
  rcases (show n = 1 ∨ n = 2 ∨ n = 3 by omega) with rfl | rfl | rfl <;> omega
theorem split_idx (hn : 1 ≤ n) {t : Nat} (ht : t < n * n) : ∃ j k, j < n ∧ k < n ∧ t = j * n + k :=
  ⟨t / n, t % n, (Nat.div_lt_iff_lt_mul hn).2 ht, Nat.mod_lt _ hn, by rw [Nat.mul_comm, Nat.div_add_mod]⟩
theorem sum_ok (h : DDok xss ws gs n) {t : Nat} (ht : t < n * n) {e : Nat} (he : e = if t % (n + 1) = 0 then 4602678819172646912 else 0) : fcmp .gtr .f64 (gapF (fop .add .f64 (sumB xss gs n t (blocksN xss.length)) e) (up ((normA xss gs 1056964608).getD t 0))) 4562254508917369340 = false := by
  obtain ⟨j, k, hj, hk, rfl⟩ := split_idx h.n1 ht
  have a := dy_up (normA_dy h hj hk)
  have s := sumB_dy h hj hk (blocksN xss.length)
  rw [blk_all] at s
  have c2 := siA_bd h hj hk xss.length (Nat.le_refl _)
  have hm := h.m2
  subst he
  by_cases g : j = k
  · rw [if_pos g] at a
    rw [if_pos ((idx_mod h.n2 hj hk).2 g)]
    exact gap_same (dy_add s half64 (by omega)) a dv_m1 (by decide +kernel)
  · rw [if_neg g] at a
    rw [if_neg (fun e => g ((idx_mod h.n2 hj hk).1 e))]
    exact gap_same (dy_add s dy_z (by omega)) a dv_m1 (by decide +kernel)
structure FitG (xss : List (List Nat)) (ws gs : List Nat) (n : Nat) (A B l x : List Nat) : Prop where
  one : normOk xss ws gs 1056964608 = true
  a1 : normAD xss ws gs 1056964608 = A
  b1 : normBD xss ws gs 1056964608 = B
  two : ∀ w : Int, 1 ≤ w → w ≤ 8 → shOk xss ws gs 1056964608 w = true ∧ shAD xss ws gs 1056964608 w = A ∧ shBD xss ws gs 1056964608 w = B
  three : ftOk xss ws gs 1056964608 = true
  fd : ftD xss ws gs 1056964608 = x
  four : ridgeOk xss ws gs x 1056964608 = true
  five : ∀ ys : List Nat, (∀ y ∈ ys, Q17 y) → ys.length = n → ridgeOk xss ws gs ys 1056964608 = true ∧ fcmp .gtr .f32 (ridgeD xss ws gs x 1056964608) (fop .add .f32 (ridgeD xss ws gs ys 1056964608) 1008981770) = false
  six : cholOk A n = true
  cd : cholOf A n = l
  seven : solveOk l B = true
  sd : solveOf l B = x
  valid : validD xss ws gs = true
  la : A.length = n * n
  lb : B.length = n
  ll : l.length = n * n
  lx : x.length = n
  side : n = side A.length
  n1 : 1 ≤ n
  n3 : n ≤ 3
  cA : ∀ y ∈ A, Can .f32 y
  cB : ∀ y ∈ B, Can .f32 y
  cx : ∀ y ∈ x, Can .f32 y
  sym : ∀ j k, j < n → k < n → fcmp .neq .f32 (A.getD (j * n + k) 0) (A.getD (k * n + j) 0) = false
  prod : ∀ j k, j < n → k < n → fcmp .gtr .f64 (gapF (sumL l n j k n) (up (A.getD (j * n + k) 0))) 4576918229304087675 = false
  tri : ∀ j k, j < n → k < n → j < k → fcmp .neq .f32 (l.getD (j * n + k) 0) 0 = false
  sums : ∀ t, t < n * n → ∀ e, (e = if t % (n + 1) = 0 then 4602678819172646912 else 0) → fcmp .gtr .f64 (gapF (fop .add .f64 (sumB xss gs n t (blocksN xss.length)) e) (up (A.getD t 0))) 4562254508917369340 = false
theorem fit_good (h : DDok xss ws gs n) : ∃ A B l x, FitG xss ws gs n A B l x := by
  obtain ⟨l, x, xi, lam, F⟩ := fit_all h
  have hv := dd_valid h
  have h1 : normOk xss ws gs 1056964608 = true := by unfold normOk; rw [hv, least_hf]; rfl
  have e0 := dd_len0 h
  obtain ⟨c1, c2⟩ := F.hl
  obtain ⟨s1, s2⟩ := F.hx
  obtain ⟨f1, f2⟩ := ft_is h1 (by rw [e0]; exact c1)
  rw [e0, c2] at f1 f2
  have hfd := f2.trans s2
  refine ⟨normA xss gs 1056964608, normB xss ws gs, l, x, ⟨h1, normAD_yes h1, normBD_yes h1, fun w w1 w2 => ?_, f1.trans s1, hfd, (F.cost h).1, fun ys hy hl => ⟨(other_q h hy hl).1, F.less h hy hl⟩, c1, c2, s1, s2, hv, by rw [normA_length, e0], by rw [normB_length, e0], F.ll, F.xl, by rw [← side_norm h1, e0], h.n1, h.n2, ?_, ?_, ?_, fun j k hj hk => sym_A h hj hk, fun j k hj hk => F.prod h hj hk, fun j k hj hk g => F.tri hj hk g, fun t ht e he => sum_ok h ht he⟩⟩
  · have h2 : shOk xss ws gs 1056964608 w = true := by unfold shOk; rw [h1, decide_eq_true ⟨w1, w2⟩]; rfl
    exact ⟨h2, shAD_yes h2, shBD_yes h2⟩
  · rw [← normAD_yes h1]; exact can_normAD _ _ _ _
  · rw [← normBD_yes h1]; exact can_normBD _ _ _ _
  · rw [← hfd]; exact can_ftD _ _ _ _
end
def fd (xs : List Nat) : List Value := xs.map (Value.float .f64)
theorem fd_length (xs : List Nat) : (fd xs).length = xs.length := by simp [fd]
theorem fd_get {xs : List Nat} {k : Nat} (h : k < xs.length) : (fd xs)[k]? = some (.float .f64 (xs.getD k 0)) := by
  simp [fd, List.getD, h]
theorem fd_set (xs : List Nat) (k x : Nat) : (fd xs).set k (.float .f64 x) = fd (xs.set k x) := by simp [fd, List.map_set]
theorem fd_zeros (m : Nat) : cycle [Value.float .f64 0] m = fd (List.replicate m 0) := by
  induction m with
  | zero => rfl
  | succ m ih => simp [cycle, ih, fd, List.replicate_succ]
/-- The sums of the first b blocks. -/
def sBl (xss : List (List Nat)) (gs : List Nat) (n b : Nat) : List Nat := (List.range (n * n)).map fun t => sumB xss gs n t b
/-- .. and of i numbers of one block more. -/
def sBi (xss : List (List Nat)) (gs : List Nat) (n b i : Nat) : List Nat := (List.range (n * n)).map fun t => sumB xss gs n t (if t < i then b + 1 else b)
section
variable {xss : List (List Nat)} {gs : List Nat} {n b i : Nat}
theorem sBl_length : (sBl xss gs n b).length = n * n := by simp [sBl]
theorem sBi_length : (sBi xss gs n b i).length = n * n := by simp [sBi]
theorem sBl_0 : sBl xss gs n 0 = List.replicate (n * n) 0 := by
  refine ext_getD (by simp [sBl]) fun i hi => ?_
  unfold sBl
  rw [getD_range _ _ (by simpa [sBl] using hi), rep0]; rfl
theorem sBi_0 : sBi xss gs n b 0 = sBl xss gs n b := by
  refine ext_getD (by simp [sBl, sBi]) fun i hi => ?_
  have hi' : i < n * n := by simpa [sBi] using hi
  unfold sBi sBl
  rw [getD_range _ _ hi', getD_range _ _ hi', if_neg (by omega)]
theorem sBi_n (h : n * n ≤ i) : sBi xss gs n b i = sBl xss gs n (b + 1) := by
  refine ext_getD (by simp [sBl, sBi]) fun i hi => ?_
  have hi' : i < n * n := by simpa [sBi] using hi
  unfold sBi sBl
  rw [getD_range _ _ hi', getD_range _ _ hi', if_pos (by omega)]
theorem sBl_get {t : Nat} (ht : t < n * n) : (sBl xss gs n b).getD t 0 = sumB xss gs n t b := getD_range _ _ ht
theorem sBi_step (hi : i < n * n) : (sBi xss gs n b i).set i (fop .add .f64 ((sBi xss gs n b i).getD i 0) (up ((blockA xss gs (b * 8) (min 8 (xss.length - b * 8)) n).getD i 0))) = sBi xss gs n b (i + 1) := by
  refine ext_getD (by simp [sBi]) fun t ht => ?_
  have ht' : t < n * n := by simpa [sBi] using ht
  rw [gset (by rw [sBi_length]; exact hi)]
  unfold sBi
  rw [getD_range _ _ ht', getD_range _ _ hi, getD_range _ _ ht']
  split
  · rename_i e; subst e; rw [if_neg (by omega), if_pos (by omega)]; rfl
  · by_cases g : t < i
    · rw [if_pos g, if_pos (by omega)]
    · rw [if_neg g, if_neg (by omega)]
end
end Go.Proofs.Ytgeflnjjppgooaa
